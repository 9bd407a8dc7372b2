/- Two functions given by hand: strconv.ParseUint (of a text that is a number), nat.Text. -/
import Derived.Test.YtbjgmnliholmpaaDoorF1
import Derived.Test.YtbjgmnliholmpaaDoorXLib
import Derived.KernelRfl
namespace Go.Proofs.YtbjgmnliholmpaaDoor.X
open Go Go.RowKit Go.Proofs.YtbjgmnliholmpaaDoor.V Go.Proofs.YtbjgmnliholmpaaDoorW.PrintWords Go.Proofs.YtbjgmnliholmpaaDoorW.PrintLast Go.Proofs.YtbjgmnliholmpaaDoorW.PrintMore Go.Sort
set_option linter.unusedVariables false
set_option linter.unusedSimpArgs false
set_option linter.unusedSectionVars false
variable [Yc]
noncomputable def strconv_ParseUint.f (a0 : ByteArray) (a1 : Int) (a2 : Int) : Option Int := if a1 = 10 then (if a2 = 64 then (if a0.size ≤ 9223372036854775806 then (match Lib.parseUintB 64 a0.data.toList with | .ok u => some (u : Int) | _ => none) else (none)) else (none)) else (none)
noncomputable def strconv_ParseUint.hd : Nat × Hd := (42, ⟨[(false, [.s]), (false, [.i .i64]), (false, [.i .i64])], Int, [(false, [.i .u64]), (false, [.j])], fun x => strconv_ParseUint.f x.1.1 x.2.1.1 x.2.2.1.1, fun y => ((y, ()), ((), ()), ())⟩)
theorem parse_calls (a0 : ByteArray) (a1 : Int) (a2 : Int) (r1 : Int) (w : World) (h : strconv_ParseUint.f a0 a1 a2 = some r1) :
    Calls Tryd.prog 42 #[.string a0, .int .i64 a1, .int .i64 a2] w fun e w' => e = .returned (.tuple #[.int .u64 r1, .nilIface]) ∧ Below w.heap.size w w' := by
  unfold strconv_ParseUint.f at h
  by_cases h1 : a1 = 10
  · rw [if_pos h1] at h
    by_cases h2 : a2 = 64
    · rw [if_pos h2] at h
      by_cases h3 : a0.size ≤ 9223372036854775806
      · rw [if_pos h3] at h
        split at h
        · rename_i u hu
          obtain rfl := Option.some.inj h
          subst h1
          subst h2
          exact X_ParseUint a0 h3 u hu w
        · exact absurd h (by simp)
      · rw [if_neg h3] at h
        exact absurd h (by simp)
    · rw [if_neg h2] at h
      exact absurd h (by simp)
  · rw [if_neg h1] at h
    exact absurd h (by simp)
theorem strconv_ParseUint.ok : HdOk seat.P seat.G 42 strconv_ParseUint.hd.2 where
  fn := ⟨_, Tryd.func42, by kernel_rfl, rfl⟩
  go := fun x y h S w vs hS hG htp => by
    obtain ⟨⟨s, ⟨⟩⟩, ⟨a1, ⟨⟩⟩, ⟨a2, ⟨⟩⟩, ⟨⟩⟩ := x
    match vs, htp with
    | [v0, v1, v2], ⟨⟨h0, _⟩, ⟨h1, _⟩, ⟨h2, _⟩, _⟩ =>
      cases h0
      cases h1
      cases h2
      exact (parse_calls s a1 a2 y w h).mono fun e w' hp => ⟨_, hp.1, hp.2, [.int .u64 y, .nilIface], rfl, ⟨CR.i .u64 y, trivial⟩, ⟨CR.jk _ rfl, trivial⟩, trivial⟩
/-! ### nat.Text -/
abbrev F0 : Nat → Prop := fun _ => False
theorem cr_below {w w' : World} {c : Cd} {v : Value} {n : Nat} (h : CR F0 w c v) (hb : Below n w w') (hn : w.heap.size ≤ n) : CR F0 w' c v :=
  CR.move (S := F0) (fun _ hk => hk.elim) (fun k _ hk => hb.block k (by omega)) hb.size h
theorem cr_slice {w : World} {t : Kn} {l : List (El t)} {v : Value} (h : CR F0 w (.sl t l) v) : ∃ A c, v = .slice A l.length c := by
  cases h with
  | nsl => exact ⟨none, 0, rfl⟩
  | sl _ _ A c vs => exact ⟨some A, c, rfl⟩
theorem of_call {l0 n : List Int} {v : Value} {w : World} (hG : GW w) (hc : CR F0 w (.sl .u32 l0) v) (h : nat_of.f l0 = some n) :
    Calls Tryd.prog 31 #[v] w fun e w' => ∃ A c, e = .returned (.agg #[.slice A n.length c]) ∧ Below w.heap.size w w' ∧ CR F0 w' (.sl .u64 n) (.slice A n.length c) :=
  (nat_of.ok.go ((l0, ()), ()) n h F0 w [v] (fun _ hk => hk.elim) hG ⟨⟨hc, trivial⟩, trivial⟩).mono fun e w' hp => by
    obtain ⟨u, rfl, hb, vs, rfl, hcs⟩ := hp
    match vs, hcs with
    | [u], ⟨hu, _⟩ =>
      obtain ⟨A, c, rfl⟩ := cr_slice hu
      exact ⟨A, c, rfl, hb, hu⟩
theorem top_call {n : List Int} {r : Int} {v : Value} {w : World} (hG : GW w) (hc : CR F0 w (.sl .u64 n) v) (h : nat_digits_top.f n = some r) :
    Calls Tryd.prog 46 #[v] w fun e w' => e = .returned (.int .u64 r) ∧ Below w.heap.size w w' :=
  (nat_digits_top.ok.go ((n, ()), ()) r h F0 w [v] (fun _ hk => hk.elim) hG ⟨⟨hc, trivial⟩, trivial⟩).mono fun e w' hp => by
    obtain ⟨u, rfl, hb, hu, _⟩ := hp
    cases hu
    exact ⟨rfl, hb⟩
theorem at_call {n : List Int} {i r : Int} {v : Value} {w : World} (hG : GW w) (hc : CR F0 w (.sl .u64 n) v) (h : nat_digits_at.f n i = some r) :
    Calls Tryd.prog 47 #[v, .int .i64 i] w fun e w' => e = .returned (.int .u64 r) ∧ Below w.heap.size w w' :=
  (nat_digits_at.ok.go ((n, ()), (i, ()), ()) r h F0 w [v, .int .i64 i] (fun _ hk => hk.elim) hG ⟨⟨hc, trivial⟩, ⟨CR.i .i64 i, trivial⟩, trivial⟩).mono fun e w' hp => by
    obtain ⟨u, rfl, hb, hu, _⟩ := hp
    cases hu
    exact ⟨rfl, hb⟩
def nat_txtPad (d : Int) : List UInt8 := Lib.repeatL [48] (9 - (Lib.decDigits d.toNat).length) ++ Lib.decDigits d.toNat
def nat_txtLow (n : List Int) : Nat → List UInt8
  | 0 => []
  | j + 1 => nat_txtPad (n.getD j 0) ++ nat_txtLow n j
def nat_txt (n : List Int) : List UInt8 := Lib.decDigits (n.getD (n.length - 1) 0).toNat ++ nat_txtLow n (n.length - 1)
noncomputable def nat_Text.f (l0 : List Int) : Option ByteArray := (nat_of.f l0).bind fun n => (if n.all (fun d => decide (0 ≤ d ∧ d < 1000000000)) = true then (if n.length ≤ 1000000000000000 then (if (nat_txt n).length ≤ 140737488355328 then (some ⟨(nat_txt n).toArray⟩) else (none)) else (none)) else (none))
theorem nat_txt_at {n : List Int} (hn : n.all (fun d => decide (0 ≤ d ∧ d < 1000000000)) = true) (j : Nat) : 0 ≤ n.getD j 0 ∧ n.getD j 0 < 1000000000 := by
  rw [List.all_eq_true] at hn
  by_cases hj : j < n.length
  · have h := hn (n[j]) (List.getElem_mem hj)
    rw [decide_eq_true_eq] at h
    rw [List.getD_eq_getElem?_getD, List.getElem?_eq_getElem hj]
    exact h
  · rw [List.getD_eq_getElem?_getD, List.getElem?_eq_none (by omega)]
    simp
theorem vp {α : Type} {p : Prop} [Decidable p] {a b : α} (h : p) : cond (Yc.y (decide p)) a b = a := by rw [Yc.h, decide_eq_true h]; rfl
theorem vn {α : Type} {p : Prop} [Decidable p] {a b : α} (h : ¬ p) : cond (Yc.y (decide p)) a b = b := by rw [Yc.h, decide_eq_false h]; rfl
theorem nat_at_f (n : List Int) (j d : Nat) (hj : j < n.length) (hd : (d : Int) = n.getD j 0) : nat_digits_at.f n (j : Int) = some (d : Int) := by
  unfold nat_digits_at.f
  rw [vp (by omega), vp (by omega), vp (by omega), vp (by omega), hd]
  rfl
theorem nat_top_f (n : List Int) (hl : n.length ≤ 1000000000000000) : nat_digits_top.f n = some (n.getD (n.length - 1) 0) := by
  have hw : wrap64 ((n.length : Int) - 1) = (n.length : Int) - 1 := by unfold wrap64; omega
  unfold nat_digits_top.f
  rw [hw]
  unfold nat_digits_at.f
  by_cases h0 : n.length = 0
  · rw [vn (by omega), List.eq_nil_of_length_eq_zero h0]
    rfl
  · rw [vp (by omega), vp (by omega), vp (by omega), vp (by omega)]
    simp only [Option.bind_some]
    rw [show ((n.length : Int) - 1) = ((n.length - 1 : Nat) : Int) from by omega]
    rfl
theorem nat_nd : ∀ (k u : Nat), u < 10 ^ (k + 1) → Lib.nDigits u ≤ k + 1
  | 0, u, h => by rw [Lib.nDigits_small (by simpa using h)]; omega
  | k + 1, u, h => by
    by_cases hu : u < 10
    · rw [Lib.nDigits_small hu]; omega
    · rw [Lib.nDigits_big hu]
      have := nat_nd k (u / 10) (by rw [Nat.pow_succ] at h; omega)
      omega
theorem nat_dec9 (u : Nat) (h : u < 1000000000) : (Lib.decDigits u).length ≤ 9 := by
  rw [Lib.decDigits_length]
  exact nat_nd 8 u (by simpa using h)
/-- What the walk of Text holds: the number's own block, the builder's, what lay there before. -/
structure nat_TI (w1 W : World) (gn : Nat) (A : Option Addr) (c : Nat) (n : List Int) (l : List UInt8) : Prop where
  blk : W.heap[gn]? = some (.cells #[.slice A n.length c] 64 (0, 0))
  bld : Lib.IsBuilder 83 5 (gn + 1) (gn + 1) (Lib.byteCells l) W
  bel : Below gn w1 W
  lt : gn + 1 ≤ W.heap.size
theorem nat_TI.step {w1 W W' : World} {gn : Nat} {A : Option Addr} {c : Nat} {n : List Int} {l : List UInt8} (h : nat_TI w1 W gn A c n l) (hb : Below W.heap.size W W') : nat_TI w1 W' gn A c n l where
  blk := by rw [hb.block gn (by have := h.lt; omega)]; exact h.blk
  bld := by
    have hs : ∀ p, Lib.BuilderAt 83 5 (gn + 1) (gn + 1) p (Lib.byteCells l) W → Lib.BuilderAt 83 5 (gn + 1) (gn + 1) p (Lib.byteCells l) W' := fun p hp => by
      have hlt := hp.lt
      obtain ⟨h1, v, h2, h3, h4⟩ := hp
      exact ⟨h1, v, by rw [hb.block _ hlt]; exact h2, pw_own_below h3 hb, h4⟩
    rcases h.bld with hp | hp
    · exact .inl (hs _ hp)
    · exact .inr (hs _ hp)
  bel := h.bel.trans (hb.mono (by have := h.lt; omega))
  lt := by have := hb.size; have := h.lt; omega
theorem nat_TI.cell {w1 W : World} {gn : Nat} {A : Option Addr} {c : Nat} {n : List Int} {l : List UInt8} (h : nat_TI w1 W gn A c n l) : W.cell? ⟨gn, 0, none⟩ = some (.slice A n.length c) := by
  simp [World.cell?, h.blk]
theorem nat_TI.write {w1 W W' : World} {gn : Nat} {A : Option Addr} {c : Nat} {n : List Int} {l : List UInt8} (h : nat_TI w1 W gn A c n l) {s : ByteArray} (hp : Lib.BuilderAt 83 5 (gn + 1) (gn + 1) (.pointer (some ⟨gn + 1, 0, none⟩)) (Lib.byteCells l ++ Lib.strCells s) W' ∧ Below (gn + 1) W W') : nat_TI w1 W' gn A c n (l ++ s.data.toList) where
  blk := by rw [hp.2.block gn (by omega)]; exact h.blk
  bld := by rw [Lib.byteCells_append, ← Lib.strCells_eq]; exact .inr hp.1
  bel := h.bel.trans (hp.2.mono (by omega))
  lt := by have := hp.2.size; have := h.lt; omega
theorem nat_below_drew (w : World) (k : Nat) : Below w.heap.size w (w.drewN k) := by
  exact pw_below_drewN (Below.refl _ _) _
theorem nat_rep_len (j : Nat) : (Lib.repeatL [48] j).length = j := by
  induction j with
  | zero => rfl
  | succ j ih => rw [Lib.repeatL, List.length_append, ih]; simp; omega
theorem nat_txtLow_le (n : List Int) (hn : n.all (fun d => decide (0 ≤ d ∧ d < 1000000000)) = true) (j : Nat) : (nat_txtPad (n.getD j 0)).length = 9 := by
  have h := nat_txt_at hn j
  have h9 := nat_dec9 (n.getD j 0).toNat (by omega)
  unfold nat_txtPad
  rw [List.length_append, nat_rep_len]
  omega
set_option maxHeartbeats 8000000 in
set_option maxRecDepth 100000 in
theorem text_calls (A0 : Option Addr) (c0 : Nat) (l0 : List Int) (r : ByteArray) (w : World) (hr0 : CR F0 w (.sl .u32 l0) (.slice A0 l0.length c0)) (hG : GW w) (h : nat_Text.f l0 = some r) :
    Calls Tryd.prog 30 #[.slice A0 l0.length c0] w fun e w' => e = .returned (.string r) ∧ Below w.heap.size w w' := by
  unfold nat_Text.f at h
  obtain ⟨n, hn, h⟩ := Option.bind_eq_some_iff.1 h
  by_cases hd : n.all (fun d => decide (0 ≤ d ∧ d < 1000000000)) = true
  · rw [if_pos hd] at h
    by_cases hl : n.length ≤ 1000000000000000
    · rw [if_pos hl] at h
      by_cases ht : (nat_txt n).length ≤ 140737488355328
      · rw [if_pos ht] at h
        obtain rfl := Option.some.inj h
        clear h
        have HD := Aside0.mk hd
        have HT := Aside0.mk ht
        have HN := Aside0.mk hn
        have HR := Aside0.mk hr0
        have HG := Aside0.mk hG
        clear hd ht hn hr0 hG
        go_enter Tryd.func30, Tryd.ntmps30
        go_wp2_with (go_at_call 31; refine (of_call HG.out HR.out HN.out).mono ?_; rintro e w1 ⟨A, c, rfl, hb, ho0⟩; have HA := Aside0.mk ho0; have HB := Aside0.mk hb; clear ho0 hb)
        obtain ⟨gn, hgn⟩ : ∃ g : Nat, w1.heap.size = g := ⟨_, rfl⟩
        obtain ⟨W, hW⟩ : ∃ W : World, (w1.alloc (.cells #[.slice A n.length c] 64)).alloc (.cells #[.pointer none, .slice none 0 0] 83) = W := ⟨_, rfl⟩
        have HI : Aside0 (nat_TI w1 W gn A c n []) := ⟨by
          subst hW
          subst hgn
          refine ⟨?_, ?_, ?_, ?_⟩
          · rw [(below_alloc (Below.refl (w1.alloc (.cells #[.slice A n.length c] 64)).heap.size _) _).block _ (by simp)]
            exact heap_alloc_new _ _
          · have hs : (w1.alloc (.cells #[.slice A n.length c] 64)).heap.size = w1.heap.size + 1 := by simp
            rw [← hs]
            exact Lib.fresh_isBuilder _ _ _
          · exact (below_alloc (Below.refl _ _) _).trans ((below_alloc (Below.refl _ _) _).mono (by simp))
          · simp⟩
        rw [hW, hgn]
        clear hW
        obtain ⟨top, htop⟩ : ∃ u : Nat, (u : Int) = n.getD (n.length - 1) 0 := ⟨(n.getD (n.length - 1) 0).toNat, by have := nat_txt_at HD.out (n.length - 1); omega⟩
        have htop9 : top < 1000000000 := by have := nat_txt_at HD.out (n.length - 1); omega
        have hft : nat_digits_top.f n = some (top : Int) := by rw [htop]; exact nat_top_f n hl
        have HTT := Aside0.mk htop
        clear htop
        have HG1 := Aside0.mk (HG.out.below (HB.out.trans (HI.out.bel.mono (by have := HB.out.size; omega))))
        refine (top_call HG1.out (cr_below HA.out HI.out.bel (by omega)) hft).mono ?_
        rintro e w2 ⟨rfl, hb2⟩
        replace HI := Aside0.mk (HI.out.step hb2)
        clear hb2 HG1 hft
        have HGW := Aside0.mk (HG.out.below (HB.out.trans (HI.out.bel.mono (by have := HB.out.size; omega))))
        go_wp2_with (go_at_call 45; refine (X_FormatUint top (by omega) _ HGW.out).mono ?_; rintro e w3 ⟨rfl, hb3⟩)
        replace HI := Aside0.mk (HI.out.step hb3)
        clear hb3 HGW
        have hlen0 : (Lib.byteCells []).length + (⟨(Lib.decDigits top).toArray⟩ : ByteArray).size ≤ 140737488355328 := by
          have := nat_dec9 top htop9
          show 0 + (Lib.decDigits top).toArray.size ≤ _
          rw [List.size_toArray]
          omega
        refine (X_WriteString (gn + 1) (gn + 1) _ _ _ HI.out.bld hlen0 HI.out.lt).mono ?_
        rintro e w4 ⟨rfl, hp4⟩
        replace HI := Aside0.mk (HI.out.write hp4)
        clear hp4 hlen0
        have HS : Aside0 (([] ++ (⟨(Lib.decDigits top).toArray⟩ : ByteArray).data.toList) ++ nat_txtLow n (n.length - 1) = nat_txt n) := ⟨by
          unfold nat_txt
          rw [← HTT.out]
          simp⟩
        generalize ([] ++ (⟨(Lib.decDigits top).toArray⟩ : ByteArray).data.toList) = l at *
        have hcell := HI.out.cell
        go_wp2
        go_loopw [5] (fun v5 wr => ∃ (i : Int) (l : List UInt8), v5 = .int .i64 i ∧ -2 ≤ i ∧ i < 1000000000000000 ∧ Aside0 (i < n.length) ∧ Aside0 (nat_TI w1 wr gn A c n l) ∧ Aside0 (l ++ nat_txtLow n (i + 1).toNat = nat_txt n)) (fun v5 _ => (intOf v5 + 2).toNat)
        case atStart => exact ⟨_, l, rfl, by omega, by omega, ⟨by omega⟩, HI, ⟨by rw [show ((n.length : Int) - 2 + 1).toNat = n.length - 1 from by omega]; exact HS.out⟩⟩
        case round =>
          clear HS HI hcell
          obtain ⟨i, l, rfl, hi0, hi1, hi2, HI, HS⟩ := hrel
          have hcell := HI.out.cell
          by_cases hi : 0 ≤ i
          · have hi' : decide (0 ≤ i) = true := decide_eq_true hi
            obtain ⟨j, rfl⟩ : ∃ j : Nat, i = j := ⟨i.toNat, by omega⟩
            have hj : j < n.length := by have := hi2.out; omega
            obtain ⟨d, hd⟩ : ∃ u : Nat, (u : Int) = n.getD j 0 := ⟨(n.getD j 0).toNat, by have := nat_txt_at HD.out j; omega⟩
            have hd9 : d < 1000000000 := by have := nat_txt_at HD.out j; omega
            have hfd : Aside0 (nat_digits_at.f n (j : Int) = some (d : Int)) := ⟨nat_at_f n j d hj hd⟩
            have hds : (Lib.decDigits d).length ≤ 9 := nat_dec9 d hd9
            have HP : Aside0 (Lib.repeatL [48] (9 - (Lib.decDigits d).length) ++ Lib.decDigits d = nat_txtPad (n.getD j 0)) := ⟨by unfold nat_txtPad; rw [← hd]; rfl⟩
            clear hd
            go_wp2_with fail
            have HG1 := Aside0.mk (HG.out.below (HB.out.trans (HI.out.bel.mono (by have := HB.out.size; omega))))
            refine (at_call HG1.out (cr_below HA.out HI.out.bel (by omega)) hfd.out).mono ?_
            rintro e wa ⟨rfl, hb2⟩
            replace HI := Aside0.mk (HI.out.step hb2)
            clear hcell hfd hb2 HG1
            have HGW := Aside0.mk (HG.out.below (HB.out.trans (HI.out.bel.mono (by have := HB.out.size; omega))))
            go_wp2_with (go_at_call 45; refine (X_FormatUint d (by omega) _ HGW.out).mono ?_; rintro e wb ⟨rfl, hb3⟩)
            replace HI := Aside0.mk (HI.out.step hb3)
            clear hb3 HGW
            rw [show (9 - ((Lib.decDigits d).length : Int)) = ((9 - (Lib.decDigits d).length : Nat) : Int) from by omega]
            refine (X_Repeat ⟨#[48]⟩ (9 - (Lib.decDigits d).length) _ (by omega) (by show 1 * _ ≤ _; omega)).mono ?_
            rintro e wc ⟨rfl, hb4⟩
            replace HI := Aside0.mk (HI.out.step hb4)
            clear hb4
            have hrl := nat_rep_len (9 - (Lib.decDigits d).length)
            have HP2 : Aside0 (Lib.repeatL (⟨#[48]⟩ : ByteArray).data.toList (9 - (Lib.decDigits d).length) ++ Lib.decDigits d = nat_txtPad (n.getD j 0)) := ⟨HP.out⟩
            have hrl2 : (Lib.repeatL (⟨#[48]⟩ : ByteArray).data.toList (9 - (Lib.decDigits d).length)).length ≤ 9 := by show (Lib.repeatL [48] _).length ≤ 9; omega
            clear HP hrl
            generalize Lib.repeatL (⟨#[48]⟩ : ByteArray).data.toList (9 - (Lib.decDigits d).length) = R at *
            generalize Lib.decDigits d = D at *
            go_wp2_with fail
            have hsl : Aside0 ((({ data := R.toArray } : ByteArray) ++ ({ data := D.toArray } : ByteArray)).data.toList = nat_txtPad (n.getD j 0)) := ⟨by rw [← HP2.out]; simp⟩
            have hlow : nat_txtLow n ((j : Int) + 1).toNat = nat_txtPad (n.getD j 0) ++ nat_txtLow n j := by rw [show ((j : Int) + 1).toNat = j + 1 from by omega]; rfl
            have hlenW : (Lib.byteCells l).length + (({ data := R.toArray } : ByteArray) ++ ({ data := D.toArray } : ByteArray)).size ≤ 140737488355328 := by
              have h1 := HT.out
              rw [← HS.out, hlow, ← HP2.out] at h1
              simp only [List.length_append] at h1
              rw [Lib.byteCells_length]
              have h2 : (({ data := R.toArray } : ByteArray) ++ ({ data := D.toArray } : ByteArray)).size = R.length + D.length := by
                show (({ data := R.toArray } : ByteArray) ++ ({ data := D.toArray } : ByteArray)).data.size = _
                simp
              omega
            refine (X_WriteString (gn + 1) (gn + 1) _ _ _ HI.out.bld hlenW HI.out.lt).mono ?_
            rintro e wd ⟨rfl, hp4⟩
            replace HI := Aside0.mk (HI.out.write hp4)
            have HS2 : Aside0 ((l ++ (({ data := R.toArray } : ByteArray) ++ ({ data := D.toArray } : ByteArray)).data.toList) ++ nat_txtLow n ((j : Int) - 1 + 1).toNat = nat_txt n) := ⟨by
              rw [hsl.out, show ((j : Int) - 1 + 1).toNat = j from by omega, List.append_assoc, ← hlow]
              exact HS.out⟩
            clear hp4 hlenW hlow hsl HP2 HS
            generalize l ++ (({ data := R.toArray } : ByteArray) ++ ({ data := D.toArray } : ByteArray)).data.toList = l2 at *
            go_wp2
            go_roundw
            case rel => exact ⟨(j : Int) - 1, l2, rfl, by omega, by omega, ⟨by omega⟩, HI, HS2⟩
            case measure => simp [intOf]; omega
          · have hi' : decide (0 ≤ i) = false := decide_eq_false hi
            go_wp2_with fail
            refine (X_String (gn + 1) (gn + 1) l _ HI.out.bld HI.out.lt).mono ?_
            rintro e w5 ⟨rfl, hb5⟩
            have hlt : l = nat_txt n := by
              have h := HS.out
              rw [show (i + 1).toNat = 0 from by omega] at h
              simpa [nat_txtLow] using h
            have hbel : Aside0 (Below w.heap.size w w5) := ⟨HB.out.trans ((HI.out.bel.trans (hb5.mono (by omega))).mono (by have := HB.out.size; omega))⟩
            subst hlt
            clear hb5 HI HS hcell
            go_wp2
            go_ret
            exact ⟨rfl, hbel.out⟩
      · rw [if_neg ht] at h
        exact absurd h (by simp)
    · rw [if_neg hl] at h
      exact absurd h (by simp)
  · rw [if_neg hd] at h
    exact absurd h (by simp)
noncomputable def nat_Text.hd : Nat × Hd := (30, ⟨[(false, [.sl .u32])], ByteArray, [(false, [.s])], fun x => nat_Text.f x.1.1, fun y => ((y, ()), ())⟩)
theorem nat_Text.ok : HdOk seat.P seat.G 30 nat_Text.hd.2 where
  fn := ⟨_, Tryd.func30, by kernel_rfl, rfl⟩
  go := fun x y h S w vs hS hG htp => by
    obtain ⟨⟨l, ⟨⟩⟩, ⟨⟩⟩ := x
    match vs, htp with
    | [v0], ⟨⟨h0, _⟩, _⟩ =>
      have h0 : CR F0 w (.sl .u32 l) v0 := CR.move (S := S) (fun _ hk => hk.elim) (fun k _ _ => rfl) (Nat.le_refl _) h0
      obtain ⟨A, c, rfl⟩ := cr_slice h0
      exact (text_calls A c l y w h0 hG h).mono fun e w' hp => ⟨_, hp.1, hp.2, CR.s y, trivial⟩
end Go.Proofs.YtbjgmnliholmpaaDoor.X

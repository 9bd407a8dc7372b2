/- A pure reading of code, one operation that changes nothing: what the reading tells, it does. -/
import Derived.Test.YtbjgmnliholmpaaDoorE2
namespace Go.Proofs.YtbjgmnliholmpaaDoor.V
set_option linter.unusedSimpArgs false
set_option linter.unusedVariables false
open Go Go.RowKit
set_option linter.unusedSectionVars false
variable [Yc]
section
variable {P : Program} {n : Nat} {w0 : World} {S0 : Nat → Prop} {X : Cx} {σ : St} {a : Act} {x y : Vl} {v u : Value} {cs : List Bool} {c : Cd} {l : List Cd}
theorem yt {p : Prop} [Decidable p] (h : Yc.y (decide p) = true) : p := by
  rw [Yc.h] at h
  exact of_decide_eq_true h
theorem vl1 : X.vl (.it false [c]) v ↔ X.cd c v := ⟨fun h => h.1, fun h => ⟨h, trivial⟩⟩
theorem vl_b {b : Bool} (h : X.vl (.it false [.b b]) v) : v = .bool b := by have := vl1.1 h; cases this; rfl
theorem vl_i {k : IntKind} {m : Int} (h : X.vl (.it false [.i k m]) v) : v = .int k m := by have := vl1.1 h; cases this; rfl
theorem vl_s {m : ByteArray} (h : X.vl (.it false [.s m]) v) : v = .string m := by have := vl1.1 h; cases this; rfl
theorem mk_b (b : Bool) : X.vl (.it false [.b b]) (.bool b) := vl1.2 (CR.cd (.b b))
theorem mk_i (k : IntKind) (m : Int) : X.vl (.it false [.i k m]) (.int k m) := vl1.2 (CR.cd (.i k m))
theorem mk_s (m : ByteArray) : X.vl (.it false [.s m]) (.string m) := vl1.2 (CR.cd (.s m))
theorem cstc_ok (h : cstc v = some c) : X.cd c v := by
  unfold cstc at h
  split at h
  · cases h; exact CR.b _
  · cases h; exact CR.i _ _
  · cases h; exact CR.s _
  · cases h; exact CR.nil
  · rename_i g f c'
    split at h
    · rename_i hh
      cases h
      have h1 : f = #[] := Array.eq_empty_of_size_eq_zero hh.1
      have h2 : c' = #[] := Array.eq_empty_of_size_eq_zero hh.2
      subst h1; subst h2
      exact CR.fn g
    · cases h
  · cases h
  · cases h
  · rename_i h1 h2 h3 h4 h5 h6 h7
    cases h
    refine CR.jk _ ?_
    cases v <;> first | rfl | exact absurd rfl (h6 _) | exact absurd rfl (h7 _)
theorem cstl_ok : ∀ {vs : List Value} {l : List Cd}, cstl vs = some l → X.cs l vs
  | [], l, h => by cases h; trivial
  | v :: r, l, h => by
    unfold cstl at h
    split at h
    · rename_i c hc
      split at h
      · rename_i l' hl
        cases h
        exact ⟨cstc_ok hc, cstl_ok hl⟩
      · cases h
    · cases h
theorem cst_ok (v : Value) : X.vl (cst v) v := by
  unfold cst
  split
  · rename_i cs
    split
    · rename_i l hl
      exact ⟨cs.toList, by simp, cstl_ok hl⟩
    · trivial
  · split
    · rename_i c hc
      exact vl1.2 (cstc_ok hc)
    · trivial
theorem ev_ok (h : ST n w0 S0 X σ a) (o : Operand) : X.vl (ev σ o) (a.eval o) := by
  cases o with
  | tmp t => exact h.tm t
  | const v => exact cst_ok v
  | func g => exact vl1.2 (CR.cd (.fn g))
  | global g => trivial
theorem wrp_eq (k : IntKind) (m : Int) : wrp k m = k.wrap m := by
  cases k <;> first | rfl | (show Go.RowKit.wrap64 m = _; unfold Go.RowKit.wrap64; simp [IntKind.wrap, IntKind.bits, IntKind.signed]; try omega)
/-! ### binary operations -/
theorem beq_dec (m p : Int) : (m == p) = decide (m = p) := by rw [Bool.eq_iff_iff]; simp
theorem binI_ok {op : BinOp} {k : IntKind} {m p : Int} {nz : Bool} (hnz : nz = true → p ≠ 0) (t : TypeId) (y1 y2 : Operand) (h : binI op k m p nz = some (cs, c)) (hc : ∀ b ∈ cs, b = true) (w : World) :
    ∃ v, ((do eqGuard op t y1 y2 (.int k m) (.int k p); binOp op t (.int k m) (.int k p)) : Sem Value).run P w = .ok v w ∧ X.cd c v := by
  have h0 : qz nz p = cs → p ≠ 0 := fun e => by
    cases nz with
    | true => exact hnz rfl
    | false =>
      have := hc (Yc.y (!decide (p = 0))) (by rw [← e]; simp [qz])
      rw [Yc.h] at this
      simpa using this
  cases op <;> simp only [binI, Option.some.injEq] at h <;> first | (cases h; done) | skip
  · cases h; exact ⟨.int k (k.wrap (m + p)), by simp [eqGuard, binOp, Op.intArith], by rw [wrp_eq]; exact CR.i _ _⟩
  · cases h; exact ⟨.int k (k.wrap (m - p)), by simp [eqGuard, binOp, Op.intArith], by rw [wrp_eq]; exact CR.i _ _⟩
  · cases h; exact ⟨.int k (k.wrap (m * p)), by simp [eqGuard, binOp, Op.intArith], by rw [wrp_eq]; exact CR.i _ _⟩
  · rw [Prod.mk.injEq] at h
    have h1 := h0 h.1
    rw [← h.2]
    exact ⟨.int k (k.wrap (m.tdiv p)), by simp [eqGuard, binOp, Op.intDiv, h1], by rw [wrp_eq]; exact CR.i _ _⟩
  · rw [Prod.mk.injEq] at h
    have h1 := h0 h.1
    rw [← h.2]
    exact ⟨.int k (m.tmod p), by simp [eqGuard, binOp, Op.intDiv, h1], CR.i _ _⟩
  all_goals cases h
  · exact ⟨.bool (decide (m = p)), by simp [eqGuard, binOp, Op.intCmp, beq_dec], by rw [Yc.h]; exact CR.b _⟩
  · exact ⟨.bool (!decide (m = p)), by simp [eqGuard, binOp, Op.intCmp, bne, beq_dec], by rw [Yc.h]; exact CR.b _⟩
  · exact ⟨.bool (decide (m < p)), by simp [eqGuard, binOp, Op.intCmp], by rw [Yc.h]; exact CR.b _⟩
  · exact ⟨.bool (decide (m ≤ p)), by simp [eqGuard, binOp, Op.intCmp], by rw [Yc.h]; exact CR.b _⟩
  · exact ⟨.bool (decide (p < m)), by simp [eqGuard, binOp, Op.intCmp], by rw [Yc.h]; exact CR.b _⟩
  · exact ⟨.bool (decide (p ≤ m)), by simp [eqGuard, binOp, Op.intCmp], by rw [Yc.h]; exact CR.b _⟩
theorem binS_ok {op : BinOp} {m p : ByteArray} (t : TypeId) (y1 y2 : Operand) (h : binS op m p = some (cs, c)) (hc : ∀ b ∈ cs, b = true) (w : World) :
    ∃ v, ((do eqGuard op t y1 y2 (.string m) (.string p); binOp op t (.string m) (.string p)) : Sem Value).run P w = .ok v w ∧ X.cd c v := by
  cases op <;> simp only [binS, Option.some.injEq, Prod.mk.injEq] at h <;> first | (cases h; done) | skip
  all_goals obtain ⟨rfl, rfl⟩ := h
  · have h0 : m.size + p.size ≤ maxInt := yt (hc (Yc.y (decide (m.size + p.size ≤ maxInt))) (List.mem_singleton.2 rfl))
    have h1 : ¬ (((m.size + p.size : Nat) : Int) > IntKind.i64.max) := by
      unfold maxInt at h0
      simp only [IntKind.max, IntKind.signed, IntKind.bits, if_true]
      omega
    exact ⟨.string (m ++ p), by simp only [eqGuard, binOp, Op.stringOp, if_neg h1]; simp, CR.s _⟩
  · exact ⟨.bool (m.toList == p.toList), by simp [eqGuard, binOp, Op.stringOp], by rw [Yc.h]; exact CR.b _⟩
  · exact ⟨.bool (!(m.toList == p.toList)), by simp [eqGuard, binOp, Op.stringOp], by rw [Yc.h]; exact CR.b _⟩
  · exact ⟨.bool (Op.bytesLess m.toList p.toList), by simp [eqGuard, binOp, Op.stringOp], by rw [Yc.h]; exact CR.b _⟩
  · exact ⟨.bool (!Op.bytesLess m.toList p.toList), by simp [eqGuard, binOp, Op.stringOp], by rw [Yc.h]; exact CR.b _⟩
theorem eqB_ok {m p : Bool} {t : TypeId} (ht : P.underlying t = some .bool) (w : World) : (Op.equal t (.bool m) (.bool p)).run P w = .ok (m == p) w := by
  show (Op.equalIn (9999 + 1) t (.bool m) (.bool p)).run P w = _
  generalize 9999 = d
  simp [Op.equalIn, run_underlying ht]
theorem binB_ok {op : BinOp} {m p : Bool} {t : TypeId} (ht : P.underlying t = some .bool) (y1 y2 : Operand) (w : World) :
    (op = .eql → ((do eqGuard op t y1 y2 (.bool m) (.bool p); binOp op t (.bool m) (.bool p)) : Sem Value).run P w = .ok (.bool (m == p)) w) ∧
    (op = .neq → ((do eqGuard op t y1 y2 (.bool m) (.bool p); binOp op t (.bool m) (.bool p)) : Sem Value).run P w = .ok (.bool (!(m == p))) w) := by
  constructor <;> intro e <;> subst e
  · have : ((do eqGuard .eql t y1 y2 (.bool m) (.bool p); binOp .eql t (.bool m) (.bool p)) : Sem Value) = (do pure (.bool (← Op.equal t (.bool m) (.bool p)))) := rfl
    rw [this, Sem.run_bind, eqB_ok ht]
    rfl
  · have : ((do eqGuard .neq t y1 y2 (.bool m) (.bool p); binOp .neq t (.bool m) (.bool p)) : Sem Value) = (do pure (.bool (!(← Op.equal t (.bool m) (.bool p))))) := rfl
    rw [this, Sem.run_bind, eqB_ok ht]
    rfl
/-! ### cells in memory -/
theorem tsz_some {t : TypeId} {m : Nat} (h : tsz P t = some m) : ∃ i, P.info? t = some i ∧ i.size = m := by
  unfold tsz at h
  split at h
  · rename_i i hi; cases h; exact ⟨i, hi, rfl⟩
  · cases h
theorem sizeOf_run {t : TypeId} {m : Nat} (h : tsz P t = some m) (w : World) : (sizeOf t).run P w = .ok m w := by
  obtain ⟨i, hi, rfl⟩ := tsz_some h
  simp [sizeOf, typeInfo, hi]
theorem isAgg_run {t : TypeId} {d : TypeDesc} (h : P.underlying t = some d) (w : World) : (isAgg t).run P w = .ok (isAg d) w := by
  unfold isAgg
  rw [Sem.run_bind, run_underlying h]
  cases d <;> rfl
theorem tag_some {t : TypeId} {b : Bool} (h : tag P t = some b) : ∃ d, P.underlying t = some d ∧ isAg d = b := by
  unfold tag at h
  split at h
  · rename_i d hd; cases h; exact ⟨d, hd, rfl⟩
  · cases h
theorem elem_of {t e : TypeId} (h : P.underlying t = some (.slice e)) : P.elem t = e ∧ P.underlying t = some (.slice (P.elem t)) := by
  have : P.elem t = e := by simp [Program.elem, h]
  rw [this]
  exact ⟨rfl, h⟩
theorem add_zero_ (A : Addr) : A.add 0 = A := by simp [Addr.add]
theorem add_add_ {A : Addr} (m k : Nat) : (A.add m).add k = A.add (m + k) := by
  obtain ⟨b, o, s⟩ := A
  unfold Addr.add
  by_cases h1 : m = 0 <;> by_cases h2 : k = 0 <;> simp [h1, h2, Nat.add_assoc]
theorem add_at (g o j : Nat) : (⟨g, o, none⟩ : Addr).add j = ⟨g, o + j, none⟩ := by
  unfold Addr.add; split <;> simp_all
/-- A variable's cells are read. -/
theorem cut_ok {t : TypeId} {A : Addr} {vs : List Value} (hm : ∀ (j : Nat) (u : Value), vs[j]? = some u → X.w.cell? (A.add j) = some u) (hcs : X.cs l vs) (h : cut P t l = some (cs, x)) :
    ∃ v, (loadVar t A).run P X.w = .ok v X.w ∧ X.vl x v := by
  unfold cut at h
  split at h
  · rename_i ht
    obtain ⟨d, hd, hb⟩ := tag_some ht
    split at h
    · rename_i m hsz
      split at h
      · rename_i hle
        cases h
        have hlen : (vs.take m).length = m := by rw [List.length_take, cs_len hcs]; omega
        have hr := run_loadCells_list (P := P) X.w A (vs.take m) (fun j u hu => by
          rw [List.getElem?_take] at hu
          split at hu
          · exact hm j u hu
          · cases hu)
        rw [hlen] at hr
        refine ⟨.agg (vs.take m).toArray, ?_, _, rfl, cs_take m hcs⟩
        simp [loadVar, isAgg_run hd, hb, sizeOf_run hsz, hr]
      · cases h
    · cases h
  · rename_i ht
    obtain ⟨d, hd, hb⟩ := tag_some ht
    split at h
    · rename_i c r
      cases h
      cases vs with
      | nil => exact hcs.elim
      | cons v r' =>
        refine ⟨v, ?_, vl1.2 hcs.1⟩
        have := hm 0 v rfl
        rw [add_zero_] at this
        simp [loadVar, isAgg_run hd, hb, this]
    · cases h
  · cases h
theorem gd_some {t : Kn} {l : List (El t)} {i : Nat} (h : i < l.length) : l[i]? = some (gd t l i) := by
  simp [gd, List.getElem?_eq_getElem h]
theorem rp_cs {t : Kn} {l : List (El t)} {xs : List Value} {i : Nat} {e : El t} (h : Rp X.S X.w t l xs) (hl : xs.length = l.length * sz t) (hi : l[i]? = some e) : X.cs (un t e) ((xs.drop (i * sz t)).take (sz t)) := by
  have hil := (List.getElem?_eq_some_iff.1 hi).1
  have h1 : (i + 1) * sz t ≤ l.length * sz t := Nat.mul_le_mul_right _ hil
  have h2 : (i + 1) * sz t = i * sz t + sz t := Nat.succ_mul _ _
  refine cs_of (by rw [List.length_take, List.length_drop, un_len]; omega) (fun j c v hc hv => ?_)
  rw [List.getElem?_take] at hv
  split at hv
  · rw [List.getElem?_drop] at hv
    obtain ⟨u, hu, hr⟩ := h i e j c hi hc
    rw [hv] at hu
    cases hu
    exact hr.cd
  · cases hv
theorem own_cell {base : Nat} {e : TypeId} {s n : Nat} {xs : List Value} {g c m : Nat} (h : X.w.ownsRow base e s (.slice (some ⟨g, 0, none⟩) m c) n xs) (j : Nat) (u : Value) (hu : xs[j]? = some u) : X.w.cell? ⟨g, j, none⟩ = some u := by
  have := h.cells (g := g) rfl j u hu
  rwa [add_at, Nat.zero_add] at this
theorem own_len {base : Nat} {e : TypeId} {s n : Nat} {xs : List Value} {g c m : Nat} (h : X.w.ownsRow base e s (.slice (some ⟨g, 0, none⟩) m c) n xs) : m = n ∧ n ≤ c := by
  rcases h.2 with ⟨e, _⟩ | ⟨g', cap, cur, e, _, _, h1, _⟩
  · cases e
  · cases e; exact ⟨rfl, h1⟩
theorem ldV_ok (h : ST n w0 S0 X σ a) {t : TypeId} (hx : X.vl y v) (hv : ldV P σ t y = some (cs, x)) : ∃ u, (Instr.loadAt t v).run P X.w = .ok u X.w ∧ X.vl x u := by
  have key : ∀ A, v = .pointer (some A) → (∃ u, (loadVar t A).run P X.w = .ok u X.w ∧ X.vl x u) → ∃ u, (Instr.loadAt t v).run P X.w = .ok u X.w ∧ X.vl x u := by
    rintro A rfl ⟨u, hu, hr⟩
    exact ⟨u, by simp [Instr.loadAt, Instr.sureAddr, hu], hr⟩
  unfold ldV at hv
  split at hv
  · rename_i d off
    obtain ⟨g, hA, hτ, rfl⟩ := hx
    split at hv
    · rename_i bt l hb
      have hbk := h.bk d
      rw [hb] at hbk
      obtain ⟨g', vs, _, hτ', _, hg, hcs⟩ := hbk
      rw [hτ] at hτ'
      cases hτ'
      refine key _ rfl (cut_ok (vs := vs.drop off) (fun j u hu => ?_) (cs_drop off hcs) hv)
      rw [add_at, cell_of_row X.w g _ _ bt (0, 0) hg]
      rw [List.getElem?_drop] at hu
      simpa using hu
    · cases hv
  · rename_i d k i off
    obtain ⟨g, m, c, hA, hτ, rfl, hi⟩ := hx
    split at hv
    · rename_i k' l fz hb
      split at hv
      · rename_i hk
        subst hk
        have hbk := h.bk d
        rw [hb] at hbk
        obtain ⟨xs, _, ho, h1, hrp⟩ := hbk
        rw [hτ] at ho
        have hm := (own_len ho).1
        have hil : i < l.length := by omega
        have hcs := rp_cs hrp ho.1 (gd_some hil)
        refine key _ rfl (cut_ok (vs := ((xs.drop (i * sz k')).take (sz k')).drop off) (fun j u hu => ?_) (cs_drop off hcs) hv)
        rw [add_at]
        rw [List.getElem?_drop, List.getElem?_take] at hu
        split at hu
        · rw [List.getElem?_drop] at hu
          rw [Nat.add_assoc]
          exact own_cell ho _ u hu
        · cases hu
      · cases hv
    · cases hv
  · obtain ⟨A, vs, rfl, _, _, hm, hcs⟩ := hx
    exact key _ rfl (cut_ok hm hcs hv)
  · cases hv
/-- A field's place. -/
theorem faV_ok (h : ST n w0 S0 X σ a) {t : TypeId} {j : Nat} (hx : X.vl y v) (hv : faV P t y j = some (cs, x)) : ∃ u, (Instr.fieldAt t v j).run P X.w = .ok u X.w ∧ X.vl x u := by
  unfold faV at hv
  split at hv
  · rename_i fs hfs
    split at hv
    · rename_i f hf
      split at hv
      · cases hv
      · rename_i hsz
        obtain ⟨m, hm⟩ : ∃ m, tsz P f.type = some (m + 1) := by
          cases hq : tsz P f.type with
          | none => exact absurd (.inl hq) hsz
          | some m => cases m with
            | zero => exact absurd (.inr hq) hsz
            | succ m => exact ⟨m, rfl⟩
        have key : ∀ A, v = .pointer (some A) → (Instr.fieldAt t v j).run P X.w = .ok (.pointer (some (A.add f.offset))) X.w := by
          rintro A rfl
          simp [Instr.fieldAt, run_underlying hfs, hf, Instr.sureAddr, fieldPlace, sizeOf_run hm]
        split at hv
        · cases hv
          obtain ⟨g, hA, hτ, rfl⟩ := hx
          exact ⟨_, key _ rfl, g, hA, hτ, by rw [add_at]⟩
        · cases hv
          obtain ⟨g, m', c, hA, hτ, rfl, hi⟩ := hx
          exact ⟨_, key _ rfl, g, m', c, hA, hτ, by rw [add_at, Nat.add_assoc], hi⟩
        · cases hv
          obtain ⟨A, vs, rfl, h2, h3, h4, h5⟩ := hx
          refine ⟨_, key _ rfl, A.add f.offset, vs.drop f.offset, rfl, by rw [add_block]; exact h2, by rw [add_block]; exact h3, fun i u hu => ?_, cs_drop _ h5⟩
          rw [List.getElem?_drop] at hu
          rw [add_add_]
          exact h4 _ u hu
        · cases hv
    · cases hv
  · cases hv
theorem iaV_ok (h : ST n w0 S0 X σ a) {t : TypeId} {z : Vl} (hx : X.vl y v) (hz : X.vl z u) (hv : iaV P σ t y z = some (cs, x)) (hc : ∀ b ∈ cs, b = true) : ∃ r, (Instr.indexAt t v u).run P X.w = .ok r X.w ∧ X.vl x r := by
  unfold iaV at hv
  split at hv
  · rename_i e k m ht
    have := vl_i hz
    subst this
    obtain ⟨he, ht'⟩ := elem_of ht
    split at hv
    · rename_i kk l
      split at hv
      · rename_i hh
        obtain ⟨hk, hs⟩ := hh
        cases hv
        have c1 : 0 ≤ m := yt (hc (Yc.y (decide (0 ≤ m))) (by simp))
        have c2 : m < (l.length : Int) := yt (hc (Yc.y (decide (m < (l.length : Int)))) (by simp))
        have hil : m.toNat < l.length := by omega
        have hr : CR X.S X.w (.sl kk l) v := vl1.1 hx
        cases hr with
        | nsl => simp at hil
        | sl _ _ A c vs hb hl hcell hrec =>
          obtain ⟨b1, b2⟩ := hb (fun e => by subst e; simp at hil)
          have hg := gd_some hil
          refine ⟨.pointer (some (A.add (m.toNat * sz kk))), ?_, A.add (m.toNat * sz kk), (List.range (sz kk)).map (vs m.toNat), rfl, by rw [add_block]; exact b1, by rw [add_block]; exact b2, fun j u' hu => ?_, ?_⟩
          · rw [run_indexAt_slice X.w t A _ c k m ht', if_pos ⟨c1, c2⟩, he]
            simp [sizeOf_run hs]
          · rw [List.getElem?_map] at hu
            cases hq : (List.range (sz kk))[j]? with
            | none => rw [hq] at hu; cases hu
            | some j' =>
              rw [hq] at hu
              cases hu
              have hj := (List.getElem?_eq_some_iff.1 hq).1
              have hjj : j' = j := by rw [List.getElem?_range (by simpa using hj)] at hq; exact (Option.some.inj hq).symm
              subst hjj
              rw [add_add_]
              have hjl : j' < (un kk (gd kk l m.toNat)).length := by rw [un_len]; simpa using hj
              exact hcell m.toNat _ j' _ hg (List.getElem?_eq_getElem hjl)
          · refine cs_of (by simp [un_len]) (fun j c' v' h1 h2 => ?_)
            rw [List.getElem?_map] at h2
            have hj : j < sz kk := by have := (List.getElem?_eq_some_iff.1 h1).1; rwa [un_len] at this
            rw [List.getElem?_range hj] at h2
            cases h2
            exact (hrec _ _ _ _ hg h1).cd
      · cases hv
    · rename_i d
      split at hv
      · rename_i kk l fz hb
        split at hv
        · rename_i hh
          obtain ⟨hk, hs⟩ := hh
          cases hv
          have c1 : 0 ≤ m := yt (hc (Yc.y (decide (0 ≤ m))) (by simp))
          have c2 : m < (l.length : Int) := yt (hc (Yc.y (decide (m < (l.length : Int)))) (by simp))
          have hil : m.toNat < l.length := by omega
          obtain ⟨hA, rfl, _⟩ := vl1.1 hx
          have hbk := h.bk d
          rw [hb] at hbk
          obtain ⟨xs, _, ho, h1, hrp⟩ := hbk
          rcases ho.2 with ⟨e1, e2⟩ | ⟨g, cap, cur, e1, h3, h4, h5, h6, h7, h8⟩
          · omega
          · rw [e1]
            refine ⟨.pointer (some ((⟨g, 0, none⟩ : Addr).add (m.toNat * sz kk))), ?_, g, l.length, cap, hA, e1, by rw [add_at, Nat.zero_add, Nat.add_zero], hil⟩
            rw [run_indexAt_slice X.w t _ _ _ k m ht', if_pos ⟨c1, c2⟩, he]
            simp [sizeOf_run hs]
        · cases hv
      · cases hv
    · cases hv
      have := hc false (by simp)
      cases this
    · cases hv
  · cases hv
end
end Go.Proofs.YtbjgmnliholmpaaDoor.V

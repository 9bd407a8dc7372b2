/- A pure reading of code, one operation that changes nothing: each kind of it. -/
import Derived.Test.YtbjgmnliholmpaaDoorE3
namespace Go.Proofs.YtbjgmnliholmpaaDoor.V
set_option linter.unusedSimpArgs false
set_option linter.unusedVariables false
open Go Go.RowKit
set_option linter.unusedSectionVars false
variable [Yc]
section
variable {P : Program} {n : Nat} {w0 : World} {S0 : Nat → Prop} {X : Cx} {σ : St} {a : Act} {x y z : Vl} {v u : Value} {cs : List Bool} {c : Cd} {l : List Cd}
theorem fdV_ok {t : TypeId} {j : Nat} (hx : X.vl y v) (hv : fdV P t y j = some (cs, x)) (w : World) : ∃ r, (Instr.field t v j).run P w = .ok r w ∧ X.vl x r := by
  unfold fdV at hv
  split at hv
  · rename_i fs l ht
    split at hv
    · rename_i f hf
      obtain ⟨vs, rfl, hcs⟩ := hx
      have key : ∀ r, (part f.type vs.toArray f.offset).run P w = .ok r w → (Instr.field t (.agg vs.toArray) j).run P w = .ok r w := fun r hr => by
        simp [Instr.field, run_underlying ht, hf, asAgg, hr]
      unfold cut at hv
      split at hv
      · rename_i htg
        obtain ⟨d, hd, hb⟩ := tag_some htg
        split at hv
        · rename_i m hsz
          split at hv
          · rename_i hle
            cases hv
            refine ⟨.agg (vs.toArray.extract f.offset (f.offset + m)), key _ (by simp only [part, Sem.run_bind, isAgg_run hd, hb, Result.andThen_ok, if_true, sizeOf_run hsz, Sem.run_pure]), (vs.drop f.offset).take m, ?_, cs_take m (cs_drop _ hcs)⟩
            congr 1
            apply Array.ext'
            simp [Array.toList_extract, List.drop_take, Nat.add_sub_cancel_left]
          · cases hv
        · cases hv
      · rename_i htg
        obtain ⟨d, hd, hb⟩ := tag_some htg
        split at hv
        · rename_i c r he
          cases hv
          have h0 : (l.drop f.offset)[0]? = some c := by rw [he]; rfl
          rw [List.getElem?_drop, Nat.add_zero] at h0
          obtain ⟨r', hr', hcd⟩ := cs_get hcs h0
          have hr2 : vs.toArray[f.offset]? = some r' := by simpa using hr'
          exact ⟨r', key _ (by simp [part, isAgg_run hd, hb, hr2]), vl1.2 hcd⟩
        · cases hv
      · cases hv
    · cases hv
  · cases hv
theorem ixV_ok {t : TypeId} (hx : X.vl y v) (hz : X.vl z u) (hv : ixV P t y z = some (cs, x)) (hc : ∀ b ∈ cs, b = true) (w : World) : ∃ r, (Instr.index t v u).run P w = .ok r w ∧ X.vl x r := by
  unfold ixV at hv
  split at hv
  · rename_i s k m ht
    have := vl_i hz
    subst this
    have := vl_s hx
    subst this
    cases hv
    have c1 : 0 ≤ m := yt (hc (Yc.y (decide (0 ≤ m))) (by simp))
    have c2 : m < (s.size : Int) := yt (hc (Yc.y (decide (m < (s.size : Int)))) (by simp))
    have hlt : m.toNat < s.size := by omega
    have hg : s[m.toNat]? = some s[m.toNat] := by rw [getElem?_pos s m.toNat hlt]
    refine ⟨.int .u8 ((s.data.toList.getD m.toNat 0).toNat : Int), ?_, mk_i _ _⟩
    have e : s.data.toList.getD m.toNat 0 = s[m.toNat] := by
      have hl : m.toNat < s.data.toList.length := by simpa using hlt
      rw [List.getD_eq_getElem?_getD, List.getElem?_eq_getElem hl]
      rfl
    simp only [Instr.index, Sem.run_bind, asIntOf, Sem.run_pure, Result.andThen_ok, run_underlying ht, if_pos c1, hg, e]
  · cases hv
theorem bdV_ok {m : Option Int} {o : Option Operand} (h : ST n w0 S0 X σ a) (hb : bdV (o.map (ev σ)) = some m) : (o = none ∧ m = none) ∨ (∃ p k q, o = some p ∧ m = some q ∧ a.eval p = .int k q) := by
  cases o with
  | none => simp [bdV] at hb; exact .inl ⟨rfl, hb.symm⟩
  | some p =>
    have hp := ev_ok h p
    simp only [Option.map_some] at hb
    unfold bdV at hb
    split at hb
    · rename_i e; cases e
    · rename_i k m' e
      cases hb
      injection e with e
      rw [e] at hp
      exact .inr ⟨p, k, m', rfl, rfl, vl_i hp⟩
    · cases hb
theorem slC_ok {len : Int} {a b : Option Int} (h0 : 0 ≤ len) (hc : ∀ x ∈ slC len a b, x = true) : 0 ≤ a.getD 0 ∧ a.getD 0 ≤ b.getD len ∧ b.getD len ≤ len := by
  cases a <;> cases b <;> simp only [slC, Option.getD_none, Option.getD_some] at hc ⊢
  · omega
  · rename_i b
    have c1 : 0 ≤ b := yt (hc (Yc.y (decide (0 ≤ b))) (by simp))
    have c2 : b ≤ len := yt (hc (Yc.y (decide (b ≤ len))) (by simp))
    omega
  · rename_i a
    have c1 : 0 ≤ a := yt (hc (Yc.y (decide (0 ≤ a))) (by simp))
    have c2 : a ≤ len := yt (hc (Yc.y (decide (a ≤ len))) (by simp))
    omega
  · rename_i a b
    have c1 : 0 ≤ a := yt (hc (Yc.y (decide (0 ≤ a))) (by simp))
    have c2 : a ≤ b := yt (hc (Yc.y (decide (a ≤ b))) (by simp))
    have c3 : b ≤ len := yt (hc (Yc.y (decide (b ≤ len))) (by simp))
    omega
theorem slL_eq {α : Type} (l : List α) (a b : Option Int) : slL l a b = (l.take (b.getD l.length).toNat).drop (a.getD 0).toNat := by
  cases a <;> cases b <;> simp [slL]
theorem slS_eq (s : ByteArray) (a b : Option Int) : slS s a b = s.extract (a.getD 0).toNat (b.getD s.size).toNat := by
  cases a <;> cases b <;> simp [slS]
theorem bounds_ok {b : Bool} {len cap : Nat} {lo hi : Option Operand} {la lb : Option Int} (h : ST n w0 S0 X σ a) (h1 : bdV (lo.map (ev σ)) = some la) (h2 : bdV (hi.map (ev σ)) = some lb) (c1 : 0 ≤ la.getD 0) (c2 : la.getD 0 ≤ lb.getD len) (c3 : lb.getD len ≤ (len : Int)) (hcap : len ≤ cap) (w : World) :
    (Instr.sliceBounds b len cap (lo.map a.eval) (hi.map a.eval) none).run P w = .ok ((la.getD 0).toNat, (lb.getD len).toNat, cap) w := by
  have e : (((lb.getD len).toNat : Nat) : Int) = lb.getD len := Int.toNat_of_nonneg (by omega)
  rcases bdV_ok h h1 with ⟨rfl, rfl⟩ | ⟨p, k, q, rfl, rfl, hp⟩ <;> rcases bdV_ok h h2 with ⟨rfl, rfl⟩ | ⟨p', k', q', rfl, rfl, hp'⟩
  · simp [Instr.sliceBounds]
  · simp only [Option.getD_some, Option.getD_none] at c1 c2 c3 e ⊢
    simp [Instr.sliceBounds, hp', run_sliceBound w k' q' cap _ (by omega) (by omega)]
  · simp only [Option.getD_some, Option.getD_none] at c1 c2 c3 e ⊢
    simp [Instr.sliceBounds, hp, run_sliceBound w k q len _ c1 (by omega)]
  · simp only [Option.getD_some] at c1 c2 c3 e ⊢
    simp [Instr.sliceBounds, hp, hp', run_sliceBound w k' q' cap _ (by omega) (by omega), run_sliceBound w k q q'.toNat _ c1 (by omega)]
theorem drop_get {α : Type} {l : List α} {p q i : Nat} {x : α} (h : ((l.take q).drop p)[i]? = some x) : l[p + i]? = some x ∧ p + i < q := by
  rw [List.getElem?_drop, List.getElem?_take] at h
  split at h
  · exact ⟨h, by assumption⟩
  · cases h
theorem slV_ok (h : ST n w0 S0 X σ a) {t : TypeId} {lo hi : Option Operand} (hx : X.vl y v) (hv : slV P t y (lo.map (ev σ)) (hi.map (ev σ)) = some (cs, x)) (hc : ∀ b ∈ cs, b = true) : ∃ r, (Instr.sliceAt t v (lo.map a.eval) (hi.map a.eval) none).run P X.w = .ok r X.w ∧ X.vl x r := by
  unfold slV at hv
  split at hv
  · rename_i s ht
    have := vl_s hx
    subst this
    split at hv
    · rename_i la lb h1 h2
      cases hv
      obtain ⟨c1, c2, c3⟩ := slC_ok (by omega) hc
      refine ⟨_, ?_, mk_s _⟩
      rw [slS_eq]
      rw [run_sliceAt_string X.w t _ _ _ _ ht]
      simp [Instr.slice, run_underlying ht, bounds_ok (b := false) h h1 h2 c1 c2 c3 (Nat.le_refl _)]
    · cases hv
  · rename_i e k l ht
    split at hv
    · rename_i hh
      obtain ⟨hk, hs⟩ := hh
      split at hv
      · rename_i la lb h1 h2
        cases hv
        obtain ⟨c1, c2, c3⟩ := slC_ok (by omega) hc
        rw [slL_eq]
        have hbd : ∀ cap, l.length ≤ cap → (Instr.sliceBounds true l.length cap (lo.map a.eval) (hi.map a.eval) none).run P X.w = .ok ((la.getD 0).toNat, (lb.getD (l.length : Int)).toNat, cap) X.w := fun cap hcap => bounds_ok h h1 h2 c1 c2 c3 hcap X.w
        generalize la.getD 0 = la at *
        generalize lb.getD (l.length : Int) = lb at *
        have key : ∀ (A : Option Addr) (c : Nat), l.length ≤ c → v = .slice A l.length c → (Instr.sliceAt t v (lo.map a.eval) (hi.map a.eval) none).run P X.w = .ok (.slice (if c = la.toNat then A else A.map (·.add (la.toNat * sz k))) (lb.toNat - la.toNat) (c - la.toNat)) X.w := by
          rintro A c hlc rfl
          rw [run_sliceAt_slice X.w t _ _ _ _ (elem_of ht).2]
          simp [Instr.slice, run_underlying ht, hbd c hlc, sizeOf_run hs]
        have hlen : ((l.take lb.toNat).drop la.toNat).length = lb.toNat - la.toNat := by
          rw [List.length_drop, List.length_take]
          omega
        have hr : CR X.S X.w (.sl k l) v := vl1.1 hx
        cases hr with
        | nsl =>
          have h0 : la = 0 := by simp at c3; omega
          have h0' : lb = 0 := by simp at c3; omega
          subst h0; subst h0'
          refine ⟨_, key none 0 (Nat.le_refl _) rfl, vl1.2 ?_⟩
          simp
          exact CR.cd (.nsl k)
        | sl _ _ A c vs hb hl hcell hrec =>
          refine ⟨_, key (some A) c hl rfl, vl1.2 ?_⟩
          have hsub : ∀ {i : Nat} {x : El k}, ((l.take lb.toNat).drop la.toNat)[i]? = some x → l[la.toNat + i]? = some x := fun hi => (drop_get hi).1
          by_cases hcl : c = la.toNat
          · have : lb.toNat - la.toNat = 0 := by omega
            have hnil : (l.take lb.toNat).drop la.toNat = [] := List.eq_nil_of_length_eq_zero (by omega)
            rw [if_pos hcl, hnil, this]
            exact CR.cd (.sl k [] A _ (fun _ _ => undef) (fun h => absurd rfl h) (Nat.zero_le _) (fun i x j cd hi => by simp at hi) (fun i x j cd hi => by simp at hi))
          · rw [if_neg hcl, Option.map_some, ← hlen]
            refine CR.cd (.sl k _ _ _ (fun i j => vs (la.toNat + i) j) (fun hne => ?_) (by omega) (fun i x j cd hi hj => ?_) (fun i x j cd hi hj => hrec _ _ _ _ (hsub hi) hj))
            · rw [add_block]
              exact hb (fun e => by subst e; simp at hne)
            · rw [add_add_]
              have := hcell _ _ _ _ (hsub hi) hj
              rwa [Nat.add_mul, Nat.add_assoc] at this
      · cases hv
    · cases hv
  · cases hv
theorem mxV_ok (h : ST n w0 S0 X σ a) {os : List Operand} {ts : Array TypeId} {t : TypeId} {b : Bool} (hv : mxV b (os.map (ev σ)) = some (cs, x)) (w : World) :
    ∃ r, (if b then Builtin.max_ ts t (os.map a.eval).toArray else Builtin.min_ ts t (os.map a.eval).toArray).run P w = .ok r w ∧ X.vl x r := by
  unfold mxV at hv
  split at hv
  · rename_i k m k' p e
    match os, e with
    | [o1, o2], e =>
      simp only [List.map_cons, List.map_nil, List.cons.injEq, and_true] at e
      have h1 := ev_ok h o1
      have h2 := ev_ok h o2
      rw [e.1] at h1
      rw [e.2] at h2
      split at hv
      · rename_i hk
        subst hk
        cases hv
        cases b
        · refine ⟨_, ?_, mk_i _ _⟩
          simp [Builtin.min_, Builtin.min2, vl_i h1, vl_i h2]
        · refine ⟨_, ?_, mk_i _ _⟩
          simp [Builtin.max_, Builtin.max2, vl_i h1, vl_i h2]
      · cases hv
    | [], e => simp at e
    | [_], e => simp at e
    | _ :: _ :: _ :: _, e => simp at e
  · cases hv
theorem cnvV_ok {s t : TypeId} (hx : X.vl y v) (hv : cnvV P s t y = some (cs, x)) (w : World) : ∃ r, (convert s t v).run P w = .ok r w ∧ X.vl x r := by
  unfold cnvV at hv
  split at hv
  · rename_i k1 k k2 m h1 h2
    cases hv
    have := vl_i hx
    subst this
    exact ⟨.int k (k.wrap m), by simp [convert, run_underlying h1, run_underlying h2, Conv.intToInt], by rw [wrp_eq]; exact mk_i _ _⟩
  · rename_i m h1 h2
    cases hv
    have := vl_s hx
    subst this
    exact ⟨.string m, by simp [convert, run_underlying h1, run_underlying h2], mk_s _⟩
  · cases hv
end
end Go.Proofs.YtbjgmnliholmpaaDoor.V

/- A pure reading of code, one operation: each kind of it, all together. -/
import Derived.Test.YtbjgmnliholmpaaDoorE9
namespace Go.Proofs.YtbjgmnliholmpaaDoor.V
set_option linter.unusedSimpArgs false
set_option linter.unusedVariables false
open Go Go.RowKit
set_option linter.unusedSectionVars false
variable [Yc]
section
variable {P : Program} {n : Nat} {w0 : World} {S0 : Nat → Prop} {X Y : Cx} {σ σ' : St} {a : Act} {x y z : Vl} {v u : Value} {cs : List Bool} {c : Cd} {l : List Cd} {d : Nat} {o : Oper} {rs : Rs} {ws : Ws}
/-! ### made rows -/
theorem le_max2 {m : Nat} (h : m ≤ 281474976710656) : m ≤ maxInt := by unfold maxInt; omega
theorem sameOp_ok {p q : Operand} (h : sameOp p q = true) {k k' : IntKind} {m m' : Int} (hp : X.vl (ev σ p) (a.eval p)) (hq : X.vl (ev σ q) (a.eval q)) (h1 : ev σ p = .it false [.i k m]) (h2 : ev σ q = .it false [.i k' m']) : m = m' := by
  unfold sameOp at h
  split at h
  · simp only [beq_iff_eq] at h
    subst h
    rw [h1] at h2
    cases h2
    rfl
  · simp only [decide_eq_true_eq] at h
    subst h
    simp only [ev, cst, cstc] at h1 h2
    cases h1
    cases h2
    rfl
  · cases h
theorem zeroOk_some {e : TypeId} {k : Kn} (h : zeroOk P e k = true) : ∃ (i : TypeInfo) (zv : Value), P.info? e = some i ∧ i.zero = some zv ∧ zv.cells.size = sz k ∧ ∀ S w, (Cx0 S w).cs (un k (zeroOf P e k)) zv.cells.toList := by
  unfold zeroOk at h
  split at h
  · rename_i zs hz
    split at h
    · rename_i e0 he
      have hl : zs.length = sz k := by simpa using h
      obtain ⟨i, zv, hi, hzv, hcs⟩ := tz_ok (X := Cx0 (fun _ => False) default) (P := P) hz
      refine ⟨i, zv, hi, hzv, by have := cs_len hcs; rw [hl] at this; simpa using this, fun S w => ?_⟩
      obtain ⟨i', zv', hi', hzv', hcs'⟩ := tz_ok (X := Cx0 S w) (P := P) hz
      rw [hi] at hi'
      cases hi'
      rw [hzv] at hzv'
      cases hzv'
      have : zeroOf P e k = e0 := by simp [zeroOf, hz, he]
      rw [this]
      exact mk_cs he (un_no hcs') hcs'
    · cases h
  · cases h
theorem made_rp {S : Nat → Prop} {w : World} {k : Kn} {e0 : El k} {zc : Array Value} (hz : zc.size = sz k) (hc : (Cx0 S w).cs (un k e0) zc.toList) (m : Nat) :
    (∀ u ∈ (madeCells zc (m * sz k)).toList, u.oneCell' = true) ∧ Rp S w k (List.replicate m e0) (madeCells zc (m * sz k)).toList := by
  have hget : ∀ (q : Nat) (u : Value), (madeCells zc (m * sz k)).toList[q]? = some u → 0 < sz k → zc.toList[q % sz k]? = some u := fun q u hq hp => by
    have hqm : q < m * sz k := by have := (List.getElem?_eq_some_iff.1 hq).1; simpa [size_madeCells] using this
    have hmod := Nat.mod_lt q hp
    have h1 : (madeCells zc (m * sz k)).toList[q]? = some (zc[q % zc.size]!) := by
      simp [madeCells, hqm]
    rw [hq] at h1
    cases h1
    rw [hz]
    have : q % sz k < zc.size := by rw [hz]; exact hmod
    simp [this]
  refine ⟨fun u hu => ?_, fun i e j cd hi hj => ?_⟩
  · obtain ⟨q, hq, e⟩ := List.mem_iff_getElem.1 hu
    have hq' := List.getElem?_eq_some_iff.2 ⟨hq, e⟩
    have hp : 0 < sz k := by
      rcases Nat.eq_zero_or_pos (sz k) with h0 | h0
      · simp [madeCells, h0] at hq
      · exact h0
    exact cs_one hc u (List.mem_of_getElem? (hget q u hq' hp))
  · have him : i < m := by have := (List.getElem?_eq_some_iff.1 hi).1; simpa using this
    rw [List.getElem?_replicate, if_pos him] at hi
    cases hi
    obtain ⟨v, hv, hcd⟩ := cs_get hc hj
    have hjl : j < sz k := by have := (List.getElem?_eq_some_iff.1 hj).1; rwa [un_len] at this
    have hq : i * sz k + j < m * sz k := by
      have : (i + 1) * sz k ≤ m * sz k := Nat.mul_le_mul_right _ him
      rw [Nat.succ_mul] at this
      omega
    have hq2 : i * sz k + j < (madeCells zc (m * sz k)).toList.length := by simpa [size_madeCells] using hq
    have h2 := hget _ _ (List.getElem?_eq_getElem hq2) (by omega)
    have h3 : (i * sz k + j) % sz k = j := by rw [Nat.mul_comm, Nat.mul_add_mod]; exact Nat.mod_eq_of_lt hjl
    rw [h3, hv] at h2
    cases h2
    refine ⟨_, List.getElem?_eq_getElem hq2, (cd_cr (fun d e => un_no hc d (e ▸ List.mem_of_getElem? hj))).1 hcd⟩
theorem ms_ok (h : ST n w0 S0 X σ a) (hd : o.dst = some d) (hn : d < n) (hA : ¬ X.A d) {t : TypeId} {p q : Operand} (hop : o.op = .makeSlice t p q) (hv : msV P σ d t p q = some rs) (hr : rs.go some = some ws) : Does P n w0 S0 X a o (app ws σ) := by
  have hal : alc o = some d := alc_of (by rw [hop]; rfl) hd
  have hp := ev_ok h p
  have hq := ev_ok h q
  unfold msV at hv
  split at hv
  · rename_i e ht
    split at hv
    · rename_i k k1 m k2 c hk e1 e2
      obtain ⟨hke, hsz, hpos, hbp⟩ := kOf_some hk
      split at hv
      · rename_i hz
        obtain ⟨i, zv, hi, hzv, hzs, hzc⟩ := zeroOk_some hz
        obtain ⟨i', hi', hsize⟩ := tsz_some hsz
        rw [hi] at hi'
        cases hi'
        have hpv : a.eval p = .int k1 m := by rw [e1] at hp; exact vl_i hp
        have hqv : a.eval q = .int k2 c := by rw [e2] at hq; exact vl_i hq
        have hby := tby_of hi
        have fin : ∀ (l : List (El k)) (v : Value) (w1 : World) (xs : List Value), (Instr.makeSlice t (a.eval p) (a.eval q)).run P X.w = .ok v w1 → w1.ownsRow w0.heap.size e (sz k) v l.length xs → X.w.grownBy w1 none → v = .slice (some ⟨X.w.heap.size, 0, none⟩) l.length c.toNat →
            (∀ u ∈ xs, u.oneCell' = true) → Rp X.S X.w k l xs → Does P n w0 S0 X a o (app [(2 * d + 1, .arr k l false), (2 * d, .it false [.rf d])] σ) := fun l v w1 xs hrun ho hg hve h1 hrp => by
          refine does_new h hd hn hal hA hg (by simp only [execOp, hop, Sem.run_bind, hrun]; rfl) (fun g hg => by rw [hve] at hg; cases hg; exact Nat.le_refl _) (fun S' hS le => ⟨xs, .inr rfl, ?_, h1, hrp.move le.s le.m le.z⟩) (fun X' q1 q2 _ => vl1.2 ⟨q1, q2.symm, own_one ho⟩)
          simp only [if_pos]
          rw [hke]
          exact ho
        split at hv
        · rename_i hso
          have hmc := sameOp_ok hso hp hq e1 e2
          subst hmc
          cases hv
          obtain ⟨hc, hws⟩ := chk_some hr
          cases hws
          have c1 : 0 ≤ m := yt (hc (Yc.y (decide (0 ≤ m))) (by simp))
          have c2 : m.toNat * tby P e ≤ 281474976710656 := yt (hc (Yc.y (decide (m.toNat * tby P e ≤ 281474976710656))) (by simp))
          have c3 : m.toNat ≤ maxInt := le_max2 (Nat.le_trans (Nat.le_mul_of_pos_right _ hbp) c2)
          obtain ⟨w1, k3, k4, k5⟩ := run_make_full (P := P) X.w w0.heap.size t e i zv (sz k) ht hi hzv hsize k1 k2 m.toNat (by rw [Nat.mul_comm, ← hby]; exact c2) (by rw [← maxInt_eq]; exact c3) h.bel.size
          rw [Int.toNat_of_nonneg c1, ← hpv, ← (show a.eval q = .int k2 m from hqv)] at k3
          obtain ⟨g1, g2⟩ := made_rp hzs (hzc X.S X.w) m.toNat
          exact fin _ _ w1 _ k3 (by rw [List.length_replicate]; exact k4) k5 (by rw [List.length_replicate]) g1 g2
        · split at hv
          · cases hv
            obtain ⟨hc, hws⟩ := chk_some hr
            cases hws
            have c1 : 0 ≤ c := yt (hc (Yc.y (decide (0 ≤ c))) (by simp))
            have c2 : c.toNat * tby P e ≤ 281474976710656 := yt (hc (Yc.y (decide (c.toNat * tby P e ≤ 281474976710656))) (by simp))
            have c3 : c.toNat ≤ maxInt := le_max2 (Nat.le_trans (Nat.le_mul_of_pos_right _ hbp) c2)
            obtain ⟨w1, k3, k4, k5⟩ := run_make_own (P := P) X.w w0.heap.size t e i zv (sz k) ht hi hzv hsize k1 k2 c.toNat (by rw [Nat.mul_comm, ← hby]; exact c2) (by rw [← maxInt_eq]; exact c3) h.bel.size
            simp only [ev, cst, cstc] at e1
            cases e1
            rw [Int.toNat_of_nonneg c1, ← hpv, ← hqv] at k3
            exact fin [] _ w1 [] k3 k4 k5 rfl (fun u hu => by cases hu) (fun i e j cd hi => by simp at hi)
          · cases hv
      · cases hv
    · cases hv
  · cases hv
/-! ### stores -/
theorem does_skip (hd : o.dst = none) {w1 : World} {X' : Cx} (hX : X'.w = w1) (hA : ∀ e, X'.A e → X.A e) (hrun : (execOp a.eval o).run P X.w = .ok .skip w1) (hs : ST n w0 S0 X' σ' a) : Does P n w0 S0 X a o σ' :=
  ⟨.skip, X', a, by rw [hX]; exact hrun, .inl ⟨rfl, by rw [hd]; rfl⟩, fun e he => .inl (hA e he), hs⟩
theorem store_run {t : TypeId} {g off m : Nat} {bt : TypeId} {cur : Array Value} {vs : List Value} {w : World} (hg : w.heap[g]? = some (.cells cur bt (0, 0))) (hm : tsz P t = some m) (hl : vs.length = m) (hle : off + m ≤ cur.size) (h1 : ∀ u ∈ vs, u.oneCell' = true) (hc : u.cells = vs.toArray) :
    (Instr.storeAt t (.pointer (some ⟨g, off, none⟩)) u).run P w = .ok () (w.setRow g (cur.toList.take off ++ vs ++ cur.toList.drop (off + m)).toArray) := by
  have h2 := run_storeCells_at P g off bt vs 0 cur w hg (by omega) h1
  simp only [Nat.add_zero] at h2
  have h3 : ¬ (u.cells.size ≠ m) := by rw [hc]; simp [hl]
  simp only [Instr.storeAt, Instr.sureAddr, storeVar, Sem.run_bind, Sem.run_pure, Result.andThen_ok, sizeOf_run hm]
  rw [if_neg h3, hc]
  simp only [Sem.run_bind, Sem.run_pure, Result.andThen_ok]
  rw [← hl]
  exact h2
theorem splice {α : Type} {A B : List α} {p m q : Nat} (hb : B.length = m) (hl : p + m ≤ A.length) : (A.take p ++ B ++ A.drop (p + m))[q]? = if q < p then A[q]? else if q < p + m then B[q - p]? else A[q]? := by
  by_cases h1 : q < p
  · rw [if_pos h1, List.getElem?_append_left (by rw [List.length_append, List.length_take]; omega), List.getElem?_append_left (by rw [List.length_take]; omega), List.getElem?_take, if_pos h1]
  · rw [if_neg h1]
    by_cases h2 : q < p + m
    · rw [if_pos h2, List.getElem?_append_left (by rw [List.length_append, List.length_take]; omega), List.getElem?_append_right (by rw [List.length_take]; omega), List.length_take, Nat.min_eq_left (by omega)]
    · rw [if_neg h2, List.getElem?_append_right (by rw [List.length_append, List.length_take]; omega), List.length_append, List.length_take, Nat.min_eq_left (by omega), List.getElem?_drop]
      congr 1
      omega
theorem frz_keep {d : Nat} : ∀ {cells : List Cd} (σ' : St), noRf d cells = true → app (frz σ cells) σ' (2 * d + 1) = σ' (2 * d + 1)
  | [], _, _ => rfl
  | c :: r, σ', h => by
    cases c with
    | rf e =>
      simp only [noRf, Bool.and_eq_true, Bool.not_eq_true', beq_eq_false_iff_ne] at h
      simp only [frz]
      split
      · show app (frz σ r) (upd σ' (2 * e + 1) _) (2 * d + 1) = _
        rw [frz_keep _ h.2, upd_ne (by omega)]
      · exact frz_keep σ' h.2
    | _ => exact frz_keep (cells := r) σ' h
theorem st_ok (h : ST n w0 S0 X σ a) (hd : o.dst = none) {t : TypeId} {p q : Operand} (hop : o.op = .store t p q) (hv : stV P σ t (ev σ p) (ev σ q) = some rs) (hr : rs.go some = some ws) : Does P n w0 S0 X a o (app ws σ) := by
  have hp := ev_ok h p
  have hq := ev_ok h q
  have hex : ∀ w1, (Instr.storeAt t (a.eval p) (a.eval q)).run P X.w = .ok () w1 → (execOp a.eval o).run P X.w = .ok .skip w1 := fun w1 h1 => by
    simp only [execOp, hop, Sem.run_bind, h1]
    rfl
  unfold stV at hv
  split at hv
  · rename_i e off b l' e1 e2
    rw [e1] at hp
    rw [e2] at hq
    split at hv
    · rename_i bt l m hb hm
      split at hv
      · rename_i hh
        obtain ⟨hl, hle⟩ := hh
        cases hv
        cases hr
        obtain ⟨g, hA, hτ, hpv⟩ := hp
        have hbk := h.bk e
        rw [hb] at hbk
        obtain ⟨g', vs, _, hτ', hbase, hg, hcs⟩ := hbk
        rw [hτ] at hτ'
        cases hτ'
        obtain ⟨us, hu, hus, _⟩ := it_cells hq
        have hul := cs_len hus
        have hvl := cs_len hcs
        have hrun := store_run (P := P) (off := off) hg hm (by rw [hul]; exact hl) (by simp; omega) (cs_one hus) hu
        rw [← hpv] at hrun
        have hgr : X.w.grownBy (X.w.setRow g (vs.toArray.toList.take off ++ us ++ vs.toArray.toList.drop (off + m)).toArray) (blk (X.τ e)) := ⟨rfl, rfl, rfl, by simp, fun k hk hne => setRow_other _ g k _ (fun e' => hne (by rw [hτ, e']; rfl))⟩
        have hwr : wr (σ (2 * e + 1)) = true := by rw [hb]; rfl
        have le := h.le_touch hwr hgr
        refine does_skip (X' := { X with w := X.w.setRow g (vs.toArray.toList.take off ++ us ++ vs.toArray.toList.drop (off + m)).toArray }) hd rfl (fun _ h => h) (hex _ hrun) (h.touch hwr hgr rfl ⟨g, vs.take off ++ us ++ vs.drop (off + m), hA, hτ, hbase, ?_, le.cs (cs_app (cs_app (cs_take off hcs) hus) (cs_drop _ hcs))⟩)
        exact setRow_heap X.w g _ _ bt (0, 0) hg
      · cases hv
    · cases hv
  · rename_i e k i off b l' e1 e2
    rw [e1] at hp
    rw [e2] at hq
    split at hv
    · rename_i k' l m hb hm
      split at hv
      · rename_i hk
        subst hk
        split at hv
        · rename_i hh
          obtain ⟨hl, hle, hno⟩ := hh
          split at hv
          · rename_i e0 he0
            cases hv
            cases hr
            rw [app_snoc]
            show Does P n w0 S0 X a o (upd (app (frz σ l') σ) (2 * e + 1) (.arr k' (l.set i e0) false))
            obtain ⟨S', h1, hle1, hfz, hres⟩ := frzs_ok h l'
            have hb1 : app (frz σ l') σ (2 * e + 1) = .arr k' l false := by rw [frz_keep σ hno]; exact hb
            obtain ⟨g, nn, cc, hA, hτ, hpv, hin⟩ := hp
            obtain ⟨us, hu, hus, _⟩ := it_cells hq
            have hul := cs_len hus
            have hbk := h1.bk e
            rw [hb1] at hbk
            obtain ⟨xs, _, ho, h2, hrp⟩ := hbk
            have ho' : X.w.ownsRow w0.heap.size k'.c (sz k') (X.τ e) l.length xs := ho
            rw [hτ] at ho'
            obtain ⟨hnl, hlc⟩ := own_len ho'
            rcases ho'.2 with ⟨e3, _⟩ | ⟨g', cap, cur, e3, h3, h4, h5, h6, h7, h8⟩
            · cases e3
            · cases e3
              have hil : i < l.length := by omega
              have hxl : xs.length = l.length * sz k' := ho'.1
              have hi1 : (i + 1) * sz k' ≤ l.length * sz k' := Nat.mul_le_mul_right _ hil
              have hcap : l.length * sz k' ≤ cc * sz k' := Nat.mul_le_mul_right _ h5
              rw [Nat.succ_mul] at hi1
              have hrun := store_run (P := P) (off := i * sz k' + off) h4 hm (by rw [hul]; exact hl) (by rw [h7]; omega) (cs_one hus) hu
              rw [← hpv] at hrun
              have hgr : X.w.grownBy (X.w.setRow g (cur.toList.take (i * sz k' + off) ++ us ++ cur.toList.drop (i * sz k' + off + m)).toArray) (blk (X.τ e)) := ⟨rfl, rfl, rfl, by simp, fun k hk hne => setRow_other _ g k _ (fun e' => hne (by rw [hτ, e']; rfl))⟩
              have hwr : wr (app (frz σ l') σ (2 * e + 1)) = true := by rw [hb1]; rfl
              have le := h1.le_touch hwr hgr
              have husl : us.length = m := by rw [hul]; exact hl
              refine does_skip (X' := { X with S := S', w := X.w.setRow g (cur.toList.take (i * sz k' + off) ++ us ++ cur.toList.drop (i * sz k' + off + m)).toArray }) hd rfl (fun _ h => h) (hex _ hrun) (h1.touch hwr hgr rfl ⟨xs.take (i * sz k' + off) ++ us ++ xs.drop (i * sz k' + off + m), hA, ?_, fun u hu => ?_, ?_⟩)
              · show World.ownsRow _ _ _ _ (X.τ e) _ _
                rw [hτ, List.length_set]
                refine ⟨by rw [List.length_append, List.length_append, List.length_take, List.length_drop]; omega, .inr ⟨g, cc, _, by rw [hnl], h3, setRow_heap X.w g _ _ _ (0, 0) h4, h5, h6, ?_, ?_⟩⟩
                · simp only [List.size_toArray, List.length_append, List.length_take, List.length_drop, Array.length_toList]
                  omega
                · apply List.ext_getElem?
                  intro q
                  have hcl : cur.toList.length = cc * sz k' := by rw [Array.length_toList, h7]
                  rw [List.getElem?_take, splice (A := xs) husl (by omega)]
                  by_cases hq : q < l.length * sz k'
                  · rw [if_pos hq]
                    show (cur.toList.take (i * sz k' + off) ++ us ++ cur.toList.drop (i * sz k' + off + m))[q]? = _
                    rw [splice (A := cur.toList) husl (by omega), ← h8, List.getElem?_take, if_pos hq]
                  · rw [if_neg hq, if_neg (by omega), if_neg (by omega), List.getElem?_eq_none (by omega)]
              · rcases List.mem_append.1 hu with hu | hu
                · rcases List.mem_append.1 hu with hu | hu
                  · exact h2 u (List.mem_of_mem_take hu)
                  · exact cs_one hus u hu
                · exact h2 u (List.mem_of_mem_drop hu)
              · refine Rp.move le.s le.m le.z (fun i' e' j cd hi' hj => ?_)
                by_cases hii : i' = i
                · subst hii
                  rw [List.getElem?_set_self hil] at hi'
                  cases hi'
                  have hold := rp_cs hrp hxl (gd_some hil)
                  have hold0 : (Cx0 S' X.w).cs (un k' (gd k' l i')) ((xs.drop (i' * sz k')).take (sz k')) := (cs0 (X := { X with S := S' }) rfl rfl (fun d hd => by
                    obtain ⟨q, hq, e⟩ := List.mem_iff_getElem.1 hd
                    obtain ⟨v, _, hc⟩ := hrp i' _ q _ (gd_some hil) (List.getElem?_eq_some_iff.2 ⟨hq, e⟩)
                    exact hc.no_rf d rfl)).1 hold
                  have hnew0 := cs_res hres (fun c hc => hc) hus
                  have hsp := cs_app (cs_app (cs_take off hold0) hnew0) (cs_drop (off + m) hold0)
                  have hun := mk_cs he0 (fun d hd => by
                    rcases List.mem_append.1 hd with hd | hd
                    · rcases List.mem_append.1 hd with hd | hd
                      · exact un_no hold0 d (List.mem_of_mem_take hd)
                      · exact res_no σ l' d hd
                    · exact un_no hold0 d (List.mem_of_mem_drop hd)) hsp
                  obtain ⟨v, hv, hcd⟩ := cs_get hun hj
                  have hjl : j < sz k' := by have := (List.getElem?_eq_some_iff.1 hj).1; rwa [un_len] at this
                  have hrl : ((xs.drop (i' * sz k')).take (sz k')).length = sz k' := by rw [List.length_take, List.length_drop]; omega
                  refine ⟨v, ?_, (cd_cr (X := Cx0 S' X.w) (fun d e => un_no hun d (e ▸ List.mem_of_getElem? hj))).1 hcd⟩
                  rw [splice husl (by omega)]
                  rw [splice husl (by omega)] at hv
                  have hx : ∀ q, q < sz k' → ((xs.drop (i' * sz k')).take (sz k'))[q]? = xs[i' * sz k' + q]? := fun q hq => by rw [List.getElem?_take, if_pos hq, List.getElem?_drop]
                  by_cases q1 : j < off
                  · rw [if_pos q1, hx j hjl] at hv
                    rw [if_pos (by omega)]
                    exact hv
                  · rw [if_neg q1] at hv
                    rw [if_neg (by omega)]
                    by_cases q2 : j < off + m
                    · rw [if_pos q2] at hv
                      rw [if_pos (by omega), show i' * sz k' + j - (i' * sz k' + off) = j - off by omega]
                      exact hv
                    · rw [if_neg q2, hx j hjl] at hv
                      rw [if_neg (by omega)]
                      exact hv
                · rw [List.getElem?_set_ne (Ne.symm hii)] at hi'
                  obtain ⟨v, hv, hc⟩ := hrp i' e' j cd hi' hj
                  have hjl : j < sz k' := by have := (List.getElem?_eq_some_iff.1 hj).1; rwa [un_len] at this
                  refine ⟨v, ?_, hc⟩
                  rw [splice husl (by omega)]
                  rcases Nat.lt_or_gt_of_ne hii with hlt | hgt
                  · have : (i' + 1) * sz k' ≤ i * sz k' := Nat.mul_le_mul_right _ hlt
                    rw [Nat.succ_mul] at this
                    rw [if_pos (by omega)]
                    exact hv
                  · have : (i + 1) * sz k' ≤ i' * sz k' := Nat.mul_le_mul_right _ hgt
                    rw [Nat.succ_mul] at this
                    rw [if_neg (by omega), if_neg (by omega)]
                    exact hv
          · cases hv
        · cases hv
      · cases hv
    · cases hv
  · cases hv
end
end Go.Proofs.YtbjgmnliholmpaaDoor.V

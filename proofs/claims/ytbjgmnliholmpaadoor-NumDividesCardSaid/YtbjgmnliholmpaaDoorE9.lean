/- A pure reading of code, one operation: made rows, grown rows, cut rows, stores. -/
import Derived.Test.YtbjgmnliholmpaaDoorE8
namespace Go.Proofs.YtbjgmnliholmpaaDoor.V
set_option linter.unusedSimpArgs false
set_option linter.unusedVariables false
open Go Go.RowKit
set_option linter.unusedSectionVars false
variable [Yc]
section
variable {P : Program} {n : Nat} {w0 : World} {S0 : Nat → Prop} {X Y : Cx} {σ σ' : St} {a : Act} {x y z : Vl} {v u : Value} {cs : List Bool} {c : Cd} {l : List Cd} {d : Nat} {o : Oper} {rs : Rs} {ws : Ws}
theorem le_max {m : Nat} (h : m ≤ 140737488355328) : m ≤ maxInt := by unfold maxInt; omega
theorem vl_nil (h : X.vl (.it false [.nil]) v) : v = .slice none 0 0 := by have := vl1.1 h; cases this; rfl
theorem ap_run {w : World} (base : Nat) (t ty e : TypeId) (i : TypeInfo) (z : Value) (size bytes : Nat) (ht : P.underlying t = some (.slice e)) (hi : P.info? e = some i) (hz : i.zero = some z)
    (hsize : i.size = size) (hby : i.bytes = bytes) (hzs : z.cells.size = size) (hsz : 0 < size)
    (v : Value) (n : Nat) (xs : List Value) (hown : w.ownsRow base e size v n xs)
    (x : Value) (m : Nat) (news : List Value) (hx : (x = .slice none 0 0 ∧ m = 0) ∨ ∃ (a : Addr) (c : Nat), x = .slice (some a) m c ∧ (∀ (j : Nat) (u : Value), news[j]? = some u → w.cell? (a.add j) = some u)) (hl : news.length = m * size) (h1 : ∀ u ∈ news, u.oneCell' = true)
    (h63 : n + m ≤ maxLen) (hbytes : (n + m) * bytes ≤ 140737488355328) (hbase : base ≤ w.heap.size) :
    ∃ v' w', (Builtin.append_ #[t, t] ty #[v, x]).run P w = .ok v' w' ∧ w'.ownsRow base e size v' (n + m) (xs ++ news) ∧ w.grownBy w' (blk v) ∧ (∀ g, blk v' = some g → blk v = some g ∨ w.heap.size ≤ g) := by
  have hob : v.ownBlock = blk v := by
    rcases hown.2 with ⟨rfl, _⟩ | ⟨g, cap, cur, rfl, _⟩ <;> rfl
  rcases hx with ⟨rfl, rfl⟩ | ⟨a, c, rfl, hnews⟩
  · have hn : news = [] := List.eq_nil_of_length_eq_zero (by simpa using hl)
    subst hn
    refine ⟨v, w, run_append_owned_none w base t ty e i size ht hi v n xs hown, by simpa using hown, ⟨rfl, rfl, rfl, Nat.le_refl _, fun _ _ _ => rfl⟩, fun g hg => .inl hg⟩
  · obtain ⟨v', w', hr, ho, hg, _⟩ := run_append_own (P := P) w base t ty e i z size bytes ht hi hz hsize hby hzs hsz v n xs hown a m c news hl hnews h1 h63 hbytes hbase
    refine ⟨v', w', hr, ho, by rw [← hob]; exact hg, fun g' hg' => ?_⟩
    subst hsize
    subst hby
    have hsmall : n + m ≤ 9223372036854775807 := by simp only [maxLen] at h63; omega
    rcases hown.2 with ⟨rfl, rfl⟩ | ⟨g, cap, cur, rfl, hbg, hgg, hnc, hcm, hcs, htake⟩
    · by_cases hm : m = 0
      · subst hm
        have : (Builtin.append_ #[t, t] ty #[.slice none 0 0, .slice (some a) 0 c]).run P w = .ok (.slice none 0 0) w := by
          simp [Builtin.append_, run_underlying ht, sizeOf, typeInfo, hi, Builtin.lenOf, Builtin.firstCells, loadCells, loadCellsFrom]
        rw [this] at hr
        cases hr
        cases hg'
      · have h2 := run_append_nil (P := P) w t ty e i z ht hi hz a m c news hl hnews (by omega) (by omega) (by have hb := hbytes; simp only [Nat.zero_add] at hb; omega)
        rw [h2] at hr
        cases hr
        cases hg'
        exact .inr (Nat.le_refl _)
    · by_cases hroom : n + m ≤ cap
      · have hfit : n * i.size + news.length ≤ cur.size := by rw [hl, hcs, ← Nat.add_mul]; exact Nat.mul_le_mul_right _ hroom
        have h2 := run_append_room (P := P) w t ty e i ht hi g n cap cur hgg a m c news hl hnews h1 hroom hfit
        rw [h2] at hr
        cases hr
        exact .inl hg'
      · have holds : ∀ (j : Nat) (u : Value), xs[j]? = some u → w.cell? ((⟨g, 0, none⟩ : Addr).add j) = some u := hown.cells (g := g) rfl
        have h2 := run_append_grow (P := P) w t ty e i z ht hi hz ⟨g, 0, none⟩ n cap xs hown.1 holds a m c news hl hnews (by omega) (by omega) (growslice_fits (by omega) hbytes)
        rw [h2] at hr
        cases hr
        cases hg'
        exact .inr (Nat.le_refl _)
/-- A row's value and its cells. -/
theorem row_val (h : ST n w0 S0 X σ a) {k : Kn} {l : List (El k)} (hy : X.vl y v) (hr : rowOf σ k y = some l) : ∃ news : List Value, ((v = .slice none 0 0 ∧ l.length = 0) ∨ ∃ (A : Addr) (c : Nat), v = .slice (some A) l.length c ∧ (∀ (j : Nat) (u : Value), news[j]? = some u → X.w.cell? (A.add j) = some u)) ∧
    news.length = l.length * sz k ∧ (∀ u ∈ news, u.oneCell' = true) ∧ Rp X.S X.w k l news := by
  have data : ∀ {l : List (El k)}, CR X.S X.w (.sl k l) v → ∃ news : List Value, ((v = .slice none 0 0 ∧ l.length = 0) ∨ ∃ (A : Addr) (c : Nat), v = .slice (some A) l.length c ∧ (∀ (j : Nat) (u : Value), news[j]? = some u → X.w.cell? (A.add j) = some u)) ∧
      news.length = l.length * sz k ∧ (∀ u ∈ news, u.oneCell' = true) ∧ Rp X.S X.w k l news := by
    intro l hc
    cases hc with
    | nsl => exact ⟨[], .inl ⟨rfl, rfl⟩, by simp, (fun u hu => by cases hu), (fun i x j cd hi => by simp at hi)⟩
    | sl _ _ A c vs hb hl hcell hrec =>
      have hcs : ∀ (i : Nat) (e : El k) (u : List Value), l[i]? = some e → ((List.range l.length).map fun i => (List.range (sz k)).map (vs i))[i]? = some u → (Cx0 X.S X.w).cs (un k e) u := fun i e u hi hu => by
        have hil := (List.getElem?_eq_some_iff.1 hi).1
        rw [List.getElem?_map, List.getElem?_range hil] at hu
        cases hu
        refine cs_of (by simp [un_len]) (fun j c' v' h1 h2 => ?_)
        have hj : j < sz k := by have := (List.getElem?_eq_some_iff.1 h1).1; rwa [un_len] at this
        rw [List.getElem?_map, List.getElem?_range hj] at h2
        cases h2
        exact CR.cd (X := Cx0 X.S X.w) (hrec i e j c' hi h1)
      obtain ⟨g1, g2, g3⟩ := rp_of (uss := (List.range l.length).map fun i => (List.range (sz k)).map (vs i)) (by simp) hcs
      have hfl := flat_len g1
      rw [List.length_map, List.length_range] at hfl
      refine ⟨_, .inr ⟨A, c, rfl, fun j u hu => ?_⟩, hfl, g2, g3⟩
      have hj := (List.getElem?_eq_some_iff.1 hu).1
      rw [hfl] at hj
      have hpos : 0 < sz k := by
        rcases Nat.eq_zero_or_pos (sz k) with h0 | h0
        · rw [h0] at hj; omega
        · exact h0
      have hdiv : j / sz k < l.length := by rw [Nat.div_lt_iff_lt_mul hpos]; exact hj
      have hmod := Nat.mod_lt j hpos
      have hu2 : ((List.range l.length).map fun i => (List.range (sz k)).map (vs i))[j / sz k]? = some ((List.range (sz k)).map (vs (j / sz k))) := by
        rw [List.getElem?_map, List.getElem?_range hdiv]; rfl
      have hu3 : ((List.range (sz k)).map (vs (j / sz k)))[j % sz k]? = some (vs (j / sz k) (j % sz k)) := by
        rw [List.getElem?_map, List.getElem?_range hmod]; rfl
      have h4 := flat_get g1 hu2 hu3
      have h5 : j / sz k * sz k + j % sz k = j := Nat.div_add_mod' j (sz k)
      rw [h5, hu] at h4
      cases h4
      have hi := gd_some hdiv
      have hjl : j % sz k < (un k (gd k l (j / sz k))).length := by rw [un_len]; exact hmod
      have := hcell (j / sz k) _ (j % sz k) _ hi (List.getElem?_eq_getElem hjl)
      rwa [h5] at this
  unfold rowOf at hr
  split at hr
  · rename_i c
    have hc := vl1.1 hy
    split at hr
    · rename_i k' l' he
      split at hr
      · rename_i hk
        subst hk
        cases hr
        cases c with
        | rf b =>
          simp only [res] at he
          split at he
          · rename_i k2 l2 fz hb
            cases he
            have hbk := h.bk b
            rw [hb] at hbk
            obtain ⟨xs, _, ho, h1, hrp⟩ := hbk
            obtain ⟨_, rfl, _⟩ := hc
            rcases ho.2 with ⟨e1, e2⟩ | ⟨g, cap, cur, e1, _⟩
            · exact ⟨xs, .inl ⟨e1, e2⟩, ho.1, h1, hrp⟩
            · refine ⟨xs, .inr ⟨⟨g, 0, none⟩, cap, e1, fun j u hu => ?_⟩, ho.1, h1, hrp⟩
              exact ho.cells (g := g) (by rw [e1]; rfl) j u hu
          · cases he
        | sl k2 l2 => simp only [res] at he; cases he; exact data hc
        | _ => simp [res] at he
      · cases hr
    · rename_i he
      cases hr
      cases c with
      | rf b => simp only [res] at he; split at he <;> cases he
      | nil =>
        have hc : CR X.S X.w .nil v := hc
        cases hc
        exact data (.nsl k)
      | _ => simp [res] at he
    · cases hr
  · cases hr
theorem tby_of {e : TypeId} {i : TypeInfo} (h : P.info? e = some i) : tby P e = i.bytes := by simp [tby, h]
/-- What grows out of an own row (d0), or out of none. -/
theorem does_grow (h : ST n w0 S0 X σ a) (hd : o.dst = some d) (hn : d < n) (hal : alc o = some d) (hA : ¬ X.A d) {b : Nat} (hb : wr (σ (2 * b + 1)) = true) {w1 : World} (hw : X.w.grownBy w1 (blk (X.τ b))) (hrun : (execOp a.eval o).run P X.w = .ok (.value v) w1)
    (hv : ∀ g, blk v = some g → blk (X.τ b) = some g ∨ X.w.heap.size ≤ g) (hx : wr x = true) (hone : v.oneCell' = true)
    (hbk : X.Le ⟨fun e => if e = d then v else X.τ e, fun e => X.A e ∨ e = d, fun k => (X.S k ∧ blk (X.τ b) ≠ some k) ∨ blk v = some k, w1⟩ → Cx.bk ⟨fun e => if e = d then v else X.τ e, fun e => X.A e ∨ e = d, fun k => (X.S k ∧ blk (X.τ b) ≠ some k) ∨ blk v = some k, w1⟩ w0.heap.size d x) :
    Does P n w0 S0 X a o (app [(2 * b + 1, .jk), (2 * d + 1, x), (2 * d, .it false [.rf d])] σ) := by
  have le := h.le_grow hA hb hw hv
  have h2 := h.grow hA hb hw hv hx (hbk le)
  refine ⟨.value v, ⟨fun e => if e = d then v else X.τ e, fun e => X.A e ∨ e = d, fun k => (X.S k ∧ blk (X.τ b) ≠ some k) ∨ blk v = some k, w1⟩, _, hrun, .inr ⟨v, rfl, rfl⟩, fun e he => Or.elim he .inl (fun e' => .inr (by rw [hal, e'])), ?_⟩
  rw [hd]
  exact h2.put hn (vl1.2 ⟨.inr rfl, (if_pos rfl).symm, hone⟩)
theorem own_one {base : Nat} {e : TypeId} {s m : Nat} {xs : List Value} {w : World} (h : w.ownsRow base e s v m xs) : v.oneCell' = true := by
  rcases h.2 with ⟨rfl, _⟩ | ⟨g, cap, cur, rfl, _⟩ <;> rfl
theorem rp_app {S : Nat → Prop} {w : World} {k : Kn} {l1 l2 : List (El k)} {xs news : List Value} (hl : xs.length = l1.length * sz k) (h1 : Rp S w k l1 xs) (h2 : Rp S w k l2 news) : Rp S w k (l1 ++ l2) (xs ++ news) := by
  intro i e j cd hi hj
  by_cases hlt : i < l1.length
  · rw [List.getElem?_append_left hlt] at hi
    obtain ⟨v, hv, hc⟩ := h1 i e j cd hi hj
    exact ⟨v, by rw [List.getElem?_append_left (List.getElem?_eq_some_iff.1 hv).1]; exact hv, hc⟩
  · rw [List.getElem?_append_right (by omega)] at hi
    obtain ⟨v, hv, hc⟩ := h2 _ e j cd hi hj
    have e1 : i * sz k + j - xs.length = (i - l1.length) * sz k + j := by
      rw [hl, Nat.sub_mul]
      have : l1.length * sz k ≤ i * sz k := Nat.mul_le_mul_right _ (by omega)
      omega
    refine ⟨v, ?_, hc⟩
    rw [List.getElem?_append_right (by rw [hl]; have : l1.length * sz k ≤ i * sz k := Nat.mul_le_mul_right _ (by omega); omega), e1]
    exact hv
theorem ap_ok (h : ST n w0 S0 X σ a) (hd : o.dst = some d) (hn : d < n) (hA : ¬ X.A d) {xs : Array Operand} {ts : Array TypeId} {p q : Operand} (hop : o.op = .call ⟨.builtin .append, xs, ts⟩) (hxs : xs.toList = [p, q])
    (hv : apV P σ d ts (ev σ p) (ev σ q) = some rs) (hr : rs.go some = some ws) : Does P n w0 S0 X a o (app ws σ) := by
  have hal : alc o = some d := alc_of (by rw [hop]; rfl) hd
  unfold apV at hv
  split at hv
  · rename_i t t' ht1 ht2
    split at hv
    · rename_i htt
      subst htt
      split at hv
      · rename_i e ht
        split at hv
        · rename_i k hk
          obtain ⟨hke, hsz, hpos, hbp⟩ := kOf_some hk
          split at hv
          · rename_i hzl
            split at hv
            · rename_i l2 hl2
              obtain ⟨i, hi, hsize⟩ := tsz_some hsz
              obtain ⟨zl, hzl1, hzl2⟩ := Option.map_eq_some_iff.1 hzl
              obtain ⟨i', zv, hi', hzv, hzcs⟩ := tz_ok (X := X) hzl1
              rw [hi] at hi'
              cases hi'
              have hzsz : zv.cells.size = sz k := by have := cs_len hzcs; rw [hzl2] at this; simpa using this
              obtain ⟨news, hq1, hq2, hq3, hq4⟩ := row_val h (ev_ok h q) hl2
              have hxs' : xs = #[p, q] := by apply Array.ext'; simpa using hxs
              subst hxs'
              have hrun : ∀ r w', (Builtin.append_ #[t, t] o.type #[a.eval p, a.eval q]).run P X.w = .ok r w' → (execOp a.eval o).run P X.w = .ok (.value r) w' := fun r w' hr => by
                unfold execOp
                have hap : (Builtin.append_ ts o.type #[a.eval p, a.eval q]).run P X.w = .ok r w' := by
                  rw [← hr]
                  simp only [Builtin.append_, ht1, ht2]
                  rfl
                simp only [hop, resolve, Sem.run_bind, Sem.run_pure, Result.andThen_ok, invoke, builtin]
                show ((Builtin.append_ ts o.type (#[p, q].map a.eval)).run P X.w).andThen _ = _
                rw [show (#[p, q] : Array Operand).map a.eval = #[a.eval p, a.eval q] by simp, hap]
                rfl
              split at hv
              · rename_i b hs
                split at hv
                · rename_i k' l hb
                  split at hv
                  · rename_i hkk
                    subst hkk
                    cases hv
                    obtain ⟨hc, hws⟩ := chk_some hr
                    cases hws
                    have c1 : (l.length + l2.length) * tby P e ≤ 140737488355328 := yt (hc (Yc.y (decide ((l.length + l2.length) * tby P e ≤ 140737488355328))) (by simp))
                    have c2 : l.length + l2.length ≤ maxInt := le_max (Nat.le_trans (Nat.le_mul_of_pos_right _ hbp) c1)
                    have hp := ev_ok h p
                    rw [hs] at hp
                    obtain ⟨_, hpv, _⟩ := vl1.1 hp
                    have hbk := h.bk b
                    rw [hb] at hbk
                    obtain ⟨xs0, hA0, ho, h1, hrp⟩ := hbk
                    rw [hke] at ho
                    obtain ⟨v', w', k1, k2, k3, k4⟩ := ap_run (P := P) w0.heap.size t o.type e i zv (sz k') (tby P e) ht hi hzv hsize (tby_of hi).symm hzsz hpos (X.τ b) l.length xs0 ho (a.eval q) l2.length news hq1 hq2 hq3 (by rw [← maxInt_eq]; exact c2) c1 h.bel.size
                    rw [← hpv] at k1
                    refine does_grow h hd hn hal hA (by rw [hb]; rfl) k3 (hrun _ _ k1) k4 rfl (own_one k2) (fun le => ⟨xs0 ++ news, .inr rfl, ?_, fun u hu => (List.mem_append.1 hu).elim (h1 u) (hq3 u), ?_⟩)
                    · simp only [if_pos]
                      rw [hke, List.length_append]
                      exact k2
                    · exact (rp_app ho.1 hrp hq4).move le.s le.m le.z
                  · cases hv
                · cases hv
              · rename_i hs
                cases hv
                obtain ⟨hc, hws⟩ := chk_some hr
                cases hws
                have c1 : l2.length * tby P e ≤ 140737488355328 := yt (hc (Yc.y (decide (l2.length * tby P e ≤ 140737488355328))) (by simp))
                have c2 : l2.length ≤ maxInt := le_max (Nat.le_trans (Nat.le_mul_of_pos_right _ hbp) c1)
                have hp := ev_ok h p
                rw [hs] at hp
                have hpv : a.eval p = .slice none 0 0 := vl_nil hp
                obtain ⟨v', w', k1, k2, k3, k4⟩ := ap_run (P := P) w0.heap.size t o.type e i zv (sz k) (tby P e) ht hi hzv hsize (tby_of hi).symm hzsz hpos (.slice none 0 0) 0 [] (World.ownsRow_nil _ _ _ _) (a.eval q) l2.length news hq1 hq2 hq3 (by rw [← maxInt_eq]; omega) (by rw [Nat.zero_add]; exact c1) h.bel.size
                rw [← hpv] at k1
                have k3' : X.w.grownBy w' none := k3
                rw [Nat.zero_add, List.nil_append] at k2
                refine does_new h hd hn hal hA k3' (hrun _ _ k1) (fun g hg => (k4 g hg).elim (fun e => by cases e) id) (fun S' hS le => ⟨news, .inr rfl, ?_, hq3, hq4.move le.s le.m le.z⟩) (fun X' q1 q2 _ => vl1.2 ⟨q1, q2.symm, own_one k2⟩)
                simp only [if_pos]
                rw [hke]
                exact k2
              · cases hv
            · cases hv
          · cases hv
        · cases hv
      · cases hv
    · cases hv
  · cases hv
theorem os_ok (h : ST n w0 S0 X σ a) (hd : o.dst = some d) (hn : d < n) (hA : ¬ X.A d) {t : TypeId} {p q : Operand} {b : Nat} (hop : o.op = .slice t p none (some q) none) (hp : ev σ p = .it false [.rf b])
    (hv : osV P σ d b t (ev σ q) = some rs) (hr : rs.go some = some ws) : Does P n w0 S0 X a o (app ws σ) := by
  have hal : alc o = some d := alc_of (by rw [hop]; rfl) hd
  unfold osV at hv
  split at hv
  · rename_i e k l ki m ht hb he
    split at hv
    · rename_i hh
      obtain ⟨hke, hsz⟩ := hh
      cases hv
      obtain ⟨hc, hws⟩ := chk_some hr
      cases hws
      have c1 : 0 ≤ m := yt (hc (Yc.y (decide (0 ≤ m))) (by simp))
      have c2 : m ≤ (l.length : Int) := yt (hc (Yc.y (decide (m ≤ (l.length : Int)))) (by simp))
      have hq := ev_ok h q
      rw [he] at hq
      have hq := vl_i hq
      have hpv := ev_ok h p
      rw [hp] at hpv
      obtain ⟨_, hpv, _⟩ := vl1.1 hpv
      have hbk := h.bk b
      rw [hb] at hbk
      obtain ⟨xs, hA0, ho, h1, hrp⟩ := hbk
      have hml : m.toNat ≤ l.length := by omega
      have hlt : (l.take m.toNat).length = m.toNat := by rw [List.length_take]; omega
      have hrun : ∀ A (cap : Nat), X.τ b = .slice A l.length cap → l.length ≤ cap → (execOp a.eval o).run P X.w = .ok (.value (.slice (if cap = 0 then A else A.map (·.add 0)) m.toNat cap)) X.w := fun A cap e1 e2 => by
        have h3 : (Instr.sliceAt t (a.eval p) none (some (a.eval q)) none).run P X.w = .ok (.slice (if cap = 0 then A else A.map (·.add 0)) m.toNat cap) X.w := by
          rw [run_sliceAt_slice X.w t _ _ _ _ (elem_of ht).2, hpv, e1, hq, run_slice_h X.w t A l.length cap (elem_of ht).2 ki m c1 (by omega)]
          rw [(elem_of ht).1, sizeOf_run hsz]
          simp [sliced]
        unfold execOp
        simp only [hop, Option.map_none, Option.map_some, Sem.run_bind, h3, Result.andThen_ok]
        rfl
      have hgr : X.w.grownBy X.w (blk (X.τ b)) := ⟨rfl, rfl, rfl, Nat.le_refl _, fun _ _ _ => rfl⟩
      have hrp' : Rp X.S X.w k (l.take m.toNat) (xs.take (m.toNat * sz k)) := fun i e j cd hi hj => by
        have hi' := drop_get (p := 0) (q := m.toNat) (l := l) (i := i) (x := e) (by simpa using hi)
        rw [Nat.zero_add] at hi'
        obtain ⟨v, hv, hc⟩ := hrp i e j cd hi'.1 hj
        have hjl : j < sz k := by have := (List.getElem?_eq_some_iff.1 hj).1; rwa [un_len] at this
        refine ⟨v, ?_, hc⟩
        rw [List.getElem?_take, if_pos]
        · exact hv
        · have : (i + 1) * sz k ≤ m.toNat * sz k := Nat.mul_le_mul_right _ (by omega)
          rw [Nat.succ_mul] at this
          omega
      have h1' : ∀ u ∈ xs.take (m.toNat * sz k), u.oneCell' = true := fun u hu => h1 u (List.mem_of_mem_take hu)
      rcases ho.2 with ⟨e1, e2⟩ | ⟨g, cap, cur, e1, h3, h4, h5, h6, h7, h8⟩
      · have hm0 : m.toNat = 0 := by omega
        have hr1 := hrun none 0 (by rw [e1, e2]) (by omega)
        rw [hm0] at hr1
        refine does_grow h hd hn hal hA (by rw [hb]; rfl) hgr hr1 (fun g hg => by cases hg) rfl rfl (fun le => ⟨[], .inr rfl, ?_, (fun u hu => by cases hu), (fun i e j cd hi => by rw [hm0] at hi; simp at hi)⟩)
        simp only [if_pos]
        rw [hlt, hm0]
        exact World.ownsRow_nil _ _ _ _
      · have hr1 := hrun (some ⟨g, 0, none⟩) cap e1 h5
        have e3 : (if cap = 0 then some (⟨g, 0, none⟩ : Addr) else (some (⟨g, 0, none⟩ : Addr)).map (·.add 0)) = some ⟨g, 0, none⟩ := by split <;> simp [add_zero_]
        rw [e3] at hr1
        refine does_grow h hd hn hal hA (by rw [hb]; rfl) hgr hr1 (fun g' hg => by cases hg; exact .inl (by rw [e1]; rfl)) rfl rfl (fun le => ⟨xs.take (m.toNat * sz k), .inr rfl, ?_, h1', hrp'.move le.s le.m le.z⟩)
        simp only [if_pos]
        rw [hlt]
        have hxl : xs.length = l.length * sz k := ho.1
        have hmul : m.toNat * sz k ≤ l.length * sz k := Nat.mul_le_mul_right _ hml
        refine ⟨by rw [List.length_take]; omega, .inr ⟨g, cap, cur, rfl, h3, h4, by omega, h6, h7, ?_⟩⟩
        rw [← h8, List.take_take, Nat.min_eq_left hmul]
    · cases hv
  · cases hv
theorem fz_ok (h : ST n w0 S0 X σ a) (hd : o.dst = some d) (hn : d < n) (hA : ¬ X.A d) {t : TypeId} {p : Operand} {lo hi : Option Operand} {b : Nat} (hop : o.op = .slice t p lo hi none) (hp : ev σ p = .it false [.rf b])
    (hv : fzV P σ d b t lo hi = some rs) (hr : rs.go some = some ws) : Does P n w0 S0 X a o (app ws σ) := by
  unfold fzV at hv
  split at hv
  · rename_i k l fz hb
    split at hv
    · exact os_ok h hd hn hA hop hp hv hr
    · split at hv
      · rename_i cs z hz
        cases hv
        obtain ⟨hc, hws⟩ := chk_some hr
        cases hws
        rw [app_snoc]
        obtain ⟨S', h1, hle, hfz, hres⟩ := frzs_ok h [.rf b]
        have hpv := ev_ok h p
        rw [hp] at hpv
        have hcr := hres (.rf b) (by simp) _ (vl1.1 hpv)
        have hre : res σ (.rf b) = .sl k l := by simp only [res, hb]
        rw [hre] at hcr
        have hev : ∀ x, ev (app (frz σ [.rf b]) σ) x = ev σ x := fun x => by cases x <;> first | rfl | exact frz_even σ [.rf b] σ _
        have hmap : ∀ q : Option Operand, q.map (ev σ) = q.map (ev (app (frz σ [.rf b]) σ)) := fun q => by cases q <;> simp [hev]
        rw [hmap lo, hmap hi] at hz
        obtain ⟨r, k1, k2⟩ := slV_ok h1 (vl1.2 hcr.cd) hz hc
        refine ⟨.value r, { X with S := S' }, _, by simp only [execOp, hop, Option.map_none, Sem.run_bind]; rw [show (Instr.sliceAt t (a.eval p) (lo.map a.eval) (hi.map a.eval) none).run P X.w = _ from k1]; rfl, .inr ⟨r, rfl, rfl⟩, fun e he => .inl he, ?_⟩
        rw [hd]
        exact h1.put hn k2
      · cases hv
  · cases hv
end
end Go.Proofs.YtbjgmnliholmpaaDoor.V

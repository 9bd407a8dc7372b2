/- What a law is handed, as the engine's cells: from the form's own reading of a value (DataW.trod), with its sizes. -/
import Derived.Test.YtbjgmnliholmpaaDoorE19
import Derived.ChangeArms
import Derived.ChangeSame
import Derived.Deep.Slices
import Derived.DataReads
import Derived.SizedLaws
namespace Go.Proofs.YtbjgmnliholmpaaDoor.V
open Go Go.RowKit Go.Deep Go.ChangeShapes
set_option linter.unusedSectionVars false
set_option linter.unusedVariables false
variable [Yc]
abbrev N0 : Nat → Prop := fun _ => False
/-- Its texts and rows are of no more bytes than the form lets in. -/
def Sz {H : Type} (P : Program) (t : TypeId) (d : DataW H) : Prop := ∀ n ∈ d.weights P t, n ≤ reachBytes
/-- Whatever reads as a datum of type t are cells of these kinds, of which Q holds. -/
def Opens (P : Program) (t : TypeId) (k : List Cs) (Q : Xs k → Prop) : Prop :=
  ∀ {H : Type} {enc : TypeId × Value → H} {w : World} {held : Bool} {fuel : Nat} {vs : List Value} {x : DataW H × List MemPlace}, DataW.trod enc P w 0 (fun _ => true) held fuel t vs = some x → Sz P t x.1 → ∃ y : Xs k, (Cx0 N0 w).cs (puts k y) vs ∧ Q y
section
variable {P : Program} {t e : TypeId}
theorem Opens.int {k : IntKind} (ht : P.underlying t = some (.int k)) : Opens P t [.i k] (fun y => (Lit.int k y.1).wf = true) := fun h _ => by
  obtain ⟨n, rfl, _, hw⟩ := DataW.trod_int ht h
  exact ⟨(n, ()), ⟨CR.i k n, trivial⟩, hw⟩
theorem Opens.bool (ht : P.underlying t = some .bool) : Opens P t [.b] (fun _ => True) := fun h _ => by
  obtain ⟨b, rfl, _⟩ := DataW.trod_bool ht h
  refine ⟨(b, ()), ⟨?_, trivial⟩, trivial⟩
  have e : Yc.y b = b := Yc.h b
  show CR _ _ (.b (Yc.y b)) _
  rw [e]
  exact CR.b b
theorem Opens.string (ht : P.underlying t = some .string) : Opens P t [.s] (fun y => ByteArray.size y.1 ≤ reachBytes) := fun h hs => by
  obtain ⟨s, rfl, rfl, _⟩ := DataW.trod_string ht h
  refine ⟨(s, ()), ⟨CR.s s, trivial⟩, ?_⟩
  have h1 := hs s.data.toList.length (by simp [DataW.weights])
  rw [Array.length_toList] at h1
  exact h1
theorem weights_all {H : Type} {n : Nat} {d : DataW H} : ∀ {l : List (DataW H)}, d ∈ l → n ∈ d.weights P e → n ∈ DataW.weightsAll P e l
  | x :: r, hd, hn => by
    simp only [DataW.weightsAll, List.mem_append]
    rcases List.mem_cons.1 hd with rfl | hd
    · exact .inl hn
    · exact .inr (weights_all hd hn)
theorem cs_get' {X : Cx} : ∀ {l : List Cd} {vs : List Value} {j : Nat} {c : Cd}, X.cs l vs → l[j]? = some c → ∃ v, vs[j]? = some v ∧ X.cd c v := cs_get
theorem puts_norf : ∀ (k : List Cs) (y : Xs k) (d : Nat), Cd.rf d ∉ puts k y
  | [], _, _, h => by cases h
  | c :: r, y, d, h => by
    rcases List.mem_cons.1 h with h | h
    · cases c <;> cases h
    · exact puts_norf r y.2 d h
theorem cell_lt {w : World} {A : Addr} {u : Value} (h : w.cell? A = some u) : A.block < w.heap.size := by
  rcases Nat.lt_or_ge A.block w.heap.size with h1 | h1
  · exact h1
  · have h2 : w.heap[A.block]? = none := Array.getElem?_eq_none h1
    simp [World.cell?, h2] at h
theorem Opens.slice {k : Kn} {Q : Xs (shp k) → Prop} (ht : P.underlying t = some (.slice e)) (hc : P.cellsOf e = sz k) (ho : Opens P e (shp k) Q) :
    Opens P t [.sl k] (fun y => List.length y.1 * P.bytesOf e ≤ reachBytes ∧ ∀ z : El k, z ∈ (show List (El k) from y.1) → Q (to k z)) := fun {H enc w held fuel vs x} h hs => by
  rcases open_slice ht h with ⟨rfl, _⟩ | ⟨a, len, cap, m, n, D, Pl, rfl, _, hl, hm, hmm, hx0, hx⟩
  · exact ⟨([], ()), ⟨CR.nsl k, trivial⟩, by show 0 * _ ≤ _; omega, fun z hz => by cases hz⟩
  · have hmm' : m = cap := by simpa using hmm
    subst hmm'
    have hw : ∀ i, i < len → Sz P e (D i) := fun i hi n hn => hs n (by
      rw [hx0]
      simp only [DataW.weights, ht, List.mem_cons, List.mem_append]
      exact .inr (.inl (weights_all (List.mem_map.2 ⟨i, List.mem_range.2 hi, rfl⟩) hn)))
    have hsz : len * P.bytesOf e ≤ reachBytes := by
      have := hs ((((List.range len).map D).length + ((List.range (m - len)).map fun j => D (len + j)).length) * P.bytesOf e) (by
        rw [hx0]
        simp [DataW.weights, ht])
      simp only [List.length_map, List.length_range] at this
      exact Nat.le_trans (Nat.mul_le_mul_right _ (by omega)) this
    have hx' : ∀ i : Fin len, ∃ z : El k, ∃ c : List Value, c.length = sz k ∧ (Cx0 N0 w).cs (un k z) c ∧ (∀ j u, c[j]? = some u → w.cell? (a.add (i.1 * sz k + j)) = some u) ∧ Q (to k z) := fun i => by
      obtain ⟨cs', h1, h2⟩ := hx i.1 (by have := i.2; omega)
      obtain ⟨y, hy, hq⟩ := ho h2 (hw i.1 i.2)
      rw [hc] at h1
      obtain ⟨_, hlen, hcell⟩ := World.cells?_some h1
      refine ⟨fr k y, cs', hlen, by unfold un; rw [to_fr]; exact hy, fun j u hj => ?_, by rw [to_fr]; exact hq⟩
      have hj' : j < sz k := by rw [← hlen]; exact (List.getElem?_eq_some_iff.1 hj).1
      have h3 := hcell j hj'
      rw [hj, add_add_] at h3
      exact h3
    obtain ⟨f, hf⟩ := Classical.skolem.1 hx'
    obtain ⟨g, hg⟩ := Classical.skolem.1 hf
    have hget : ∀ i z, (List.ofFn f)[i]? = some z → ∃ hi : i < len, z = f ⟨i, hi⟩ := fun i z hi => by
      rw [List.getElem?_ofFn] at hi
      split at hi
      · rename_i hlt
        exact ⟨hlt, (Option.some.inj hi).symm⟩
      · cases hi
    have hlen : (List.ofFn f).length = len := by simp
    have hcr : CR N0 w (.sl k (List.ofFn f)) (.slice (some a) (List.ofFn f).length m) := by
      refine .sl k (List.ofFn f) a m (fun i j => if hi : i < len then (g ⟨i, hi⟩).getD j undef else undef) (fun hne => ⟨fun h => h, ?_⟩) (by rw [hlen]; exact hl) (fun i z j cd hi hj => ?_) (fun i z j cd hi hj => ?_)
      · have hp : 0 < len := Nat.pos_of_ne_zero (fun h0 => hne (List.eq_nil_of_length_eq_zero (hlen.trans h0)))
        obtain ⟨h1, h2, h3, _⟩ := hg ⟨0, hp⟩
        have hk : 0 < sz k := by cases k <;> decide
        have h4 := h3 0 ((g ⟨0, hp⟩)[0]'(by omega)) (List.getElem?_eq_getElem (by omega))
        have h5 := cell_lt h4
        rwa [add_block] at h5
      · obtain ⟨hlt, rfl⟩ := hget i z hi
        obtain ⟨h1, h2, h3, _⟩ := hg ⟨i, hlt⟩
        obtain ⟨v, hv, _⟩ := cs_get h2 hj
        rw [dif_pos hlt, List.getD_eq_getElem?_getD, hv]
        exact h3 j v hv
      · obtain ⟨hlt, rfl⟩ := hget i z hi
        obtain ⟨h1, h2, h3, _⟩ := hg ⟨i, hlt⟩
        obtain ⟨v, hv, hcd⟩ := cs_get h2 hj
        rw [dif_pos hlt, List.getD_eq_getElem?_getD, hv]
        exact (cd_cr (fun d hd => puts_norf _ _ d (hd ▸ List.mem_of_getElem? hj))).1 hcd
    rw [hlen] at hcr
    refine ⟨(List.ofFn f, ()), ⟨hcr, trivial⟩, ?_, fun z hz => ?_⟩
    · show (List.ofFn f).length * _ ≤ _
      rw [hlen]
      exact hsz
    · obtain ⟨i, rfl⟩ := List.mem_ofFn.1 hz
      exact (hg i).2.2.2
/-- A field's cells. -/
theorem cs_two {X : Cx} : ∀ {l r : List Cd} {vs : List Value} {n : Nat}, l.length = n → n ≤ vs.length → X.cs l (vs.take n) → X.cs r (vs.drop n) → X.cs (l ++ r) vs
  | [], r, vs, n, hn, _, _, h2 => by subst hn; simpa using h2
  | c :: l, r, [], n, hn, hv, _, _ => by simp at hn hv; omega
  | c :: l, r, v :: vs, n + 1, hn, hv, h1, h2 => by
    rw [List.take_succ_cons] at h1
    rw [List.drop_succ_cons] at h2
    exact ⟨h1.1, cs_two (by simpa using hn) (by simpa using hv) h1.2 h2⟩
theorem Opens.struct2 {f0 f1 : Field} {c0 c1 : Cs} {Q0 : Xs [c0] → Prop} {Q1 : Xs [c1] → Prop} (ht : P.underlying t = some (.struct #[f0, f1])) (h0 : Opens P f0.type [c0] Q0) (h1 : Opens P f1.type [c1] Q1)
    (o0 : f0.offset = 0) (o1 : f1.offset = 1) (s0 : P.cellsOf f0.type = 1) (s1 : P.cellsOf f1.type = 1) (st : P.cellsOf t = 2) : Opens P t [c0, c1] (fun y => Q0 (y.1, ()) ∧ Q1 (y.2.1, ())) := fun {H enc w held fuel vs x} h hs => by
  obtain ⟨y0, y1, n, rfl, hl, r0, r1⟩ := trod_struct2 ht h
  rw [st] at hl
  match vs, hl with
  | [u, v], _ =>
    rw [o0, s0] at r0
    rw [o1, s1] at r1
    obtain ⟨z0, k0, q0⟩ := h0 r0 (fun m hm => hs m (by simp [DataW.weights, ht, DataW.weightsEach, hm]))
    obtain ⟨z1, k1, q1⟩ := h1 r1 (fun m hm => hs m (by simp [DataW.weights, ht, DataW.weightsEach, hm]))
    exact ⟨(z0.1, z1.1, ()), ⟨k0.1, k1.1, trivial⟩, q0, q1⟩
end
end Go.Proofs.YtbjgmnliholmpaaDoor.V

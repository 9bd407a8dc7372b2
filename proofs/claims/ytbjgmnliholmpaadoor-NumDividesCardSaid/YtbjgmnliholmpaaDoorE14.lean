/- A pure reading of code: a region of open order: every order that its edges allow does the same. -/
import Derived.Test.YtbjgmnliholmpaaDoorE13
namespace Go.Proofs.YtbjgmnliholmpaaDoor.V
set_option linter.unusedSimpArgs false
set_option linter.unusedVariables false
open Go Go.RowKit
set_option linter.unusedSectionVars false
variable [Yc]
/-! ### orders -/
def ndO (o : Oper) : List Nat := (o.after.toList.filter fun e => Region.binds .any e).map (·.on)
def upb (b : Nat → Bool) (i : Nat) : Nat → Bool := fun j => if j = i then true else b j
theorem upb_same (b : Nat → Bool) (i : Nat) : upb b i i = true := by simp [upb]
theorem upb_ne {b : Nat → Bool} {i j : Nat} (h : j ≠ i) : upb b i j = b j := by simp [upb, h]
def rdy (ops : Array Oper) (listed : Array Bool) : List Nat := (List.range ops.size).filter fun i =>
  !listed.getD i true && ((ops[i]?).map (·.after.all fun e => !Region.binds .any e || listed.getD e.on false)).getD false
def tl (ops : Array Oper) : Nat → Nat → Array Bool → List Nat
  | 0, _, _ => []
  | f + 1, t, listed => match (rdy ops listed)[t % (rdy ops listed).length]? with
    | some i => i :: tl ops f (t / (rdy ops listed).length) (listed.setIfInBounds i true)
    | none => []
theorem go_tl (ops : Array Oper) : ∀ (f t : Nat) (listed : Array Bool) (acc : List Nat), Region.linearise.go .any ops f t listed acc = acc.reverse ++ tl ops f t listed
  | 0, t, listed, acc => by simp [Region.linearise.go, tl]
  | f + 1, t, listed, acc => by
    unfold Region.linearise.go tl
    show (match (rdy ops listed)[t % (rdy ops listed).length]? with
      | some i => Region.linearise.go .any ops f (t / (rdy ops listed).length) (listed.setIfInBounds i true) (i :: acc)
      | none => acc.reverse) = _
    split
    · rw [go_tl ops f]
      simp
    · simp
theorem all_nd (o : Oper) (p : Nat → Bool) : o.after.all (fun e => !Region.binds .any e || p e.on) = true ↔ ∀ e ∈ ndO o, p e = true := by
  rw [Array.all_eq_true_iff_forall_mem]
  unfold ndO
  constructor
  · intro h e he
    obtain ⟨x, hx, rfl⟩ := List.mem_map.1 he
    obtain ⟨h1, h2⟩ := List.mem_filter.1 hx
    have := h x (by simpa using h1)
    rw [h2] at this
    simpa using this
  · intro h x hx
    cases hb : Region.binds .any x with
    | false => rfl
    | true => exact h x.on (List.mem_map.2 ⟨x, List.mem_filter.2 ⟨by simpa using hx, hb⟩, rfl⟩)
section
variable {P : Program} {ops : Array Oper} {Q : Exit → Act → World → Prop}
theorem tl_wp (hed : ∀ i o, ops[i]? = some o → ∀ e ∈ ndO o, e < i) (I : (Nat → Bool) → Act → World → Prop)
    (hstep : ∀ i o b a w, ops[i]? = some o → b i = false → (∀ e ∈ ndO o, b e = true) → I b a w → ∀ K : Act → World → Prop, (∀ a' w', I (upb b i) a' w' → K a' w') → if Region.wanted o (yielded ops a.tmps) = true then Oper.wp P o a w K Q else K (a.put o.dst undef) w)
    (hfin : ∀ b a w, (∀ i, i < ops.size → b i = true) → I b a w → Q .normal a w) :
    ∀ (f t : Nat) (listed : Array Bool) (b : Nat → Bool) (a : Act) (w : World), listed.size = ops.size → (∀ i, i < ops.size → listed.getD i true = b i) → ((List.range ops.size).filter fun i => !b i).length ≤ f → I b a w → wpOps P ops Q (tl ops f t listed) a w
  | 0, t, listed, b, a, w, hsz, hb, hf, hI => by
    refine hfin b a w (fun i hi => ?_) hI
    cases hbi : b i with
    | true => rfl
    | false =>
      have : i ∈ (List.range ops.size).filter fun i => !b i := List.mem_filter.2 ⟨List.mem_range.2 hi, by rw [hbi]; rfl⟩
      have h0 : (List.range ops.size).filter (fun i => !b i) = [] := List.eq_nil_of_length_eq_zero (by omega)
      rw [h0] at this
      cases this
  | f + 1, t, listed, b, a, w, hsz, hb, hf, hI => by
    have hget : ∀ e, e < ops.size → listed.getD e false = b e := fun e he => by
      have h1 := hb e he
      simp only [Array.getD_eq_getD_getElem?] at h1 ⊢
      rw [Array.getElem?_eq_getElem (by rw [hsz]; exact he)] at h1 ⊢
      exact h1
    unfold tl
    split
    · rename_i i hi
      have hmem := List.mem_of_getElem? hi
      obtain ⟨h1, h2⟩ := List.mem_filter.1 hmem
      have hin := List.mem_range.1 h1
      rw [Bool.and_eq_true, Bool.not_eq_true', hb i hin] at h2
      obtain ⟨hbi, hall⟩ := h2
      have ho : ops[i]? = some ops[i] := Array.getElem?_eq_getElem hin
      rw [ho, Option.map_some, Option.getD_some] at hall
      have hpre : ∀ e ∈ ndO ops[i], b e = true := fun e he => by
        have h3 := (all_nd ops[i] (fun e => listed.getD e false)).1 hall e he
        rw [hget e (by have := hed i _ ho e he; omega)] at h3
        exact h3
      have hrest : ∀ a' w', I (upb b i) a' w' → wpOps P ops Q (tl ops f (t / (rdy ops listed).length) (listed.setIfInBounds i true)) a' w' := fun a' w' hI' => by
        refine tl_wp hed I hstep hfin f _ _ (upb b i) a' w' (by simpa using hsz) (fun j hj => ?_) ?_ hI'
        · simp only [Array.getD_eq_getD_getElem?, Array.getElem?_setIfInBounds]
          by_cases hij : i = j
          · subst hij
            rw [if_pos rfl, if_pos (by rw [hsz]; exact hin), upb_same]
            rfl
          · rw [if_neg hij, upb_ne (Ne.symm hij), ← hb j hj, Array.getD_eq_getD_getElem?]
        · have key : ∀ (l : List Nat), l.Nodup → i ∈ l → (l.filter fun j => !upb b i j).length + 1 = (l.filter fun j => !b j).length := by
            intro l
            induction l with
            | nil => intro _ h; cases h
            | cons x r ih =>
              intro hnd hm
              obtain ⟨hx, hr⟩ := List.nodup_cons.1 hnd
              rcases List.mem_cons.1 hm with e | hm
              · subst e
                have hsame : ∀ j ∈ r, (!upb b i j) = !b j := fun j hj => by rw [upb_ne (fun (e' : j = i) => hx (e' ▸ hj))]
                rw [List.filter_cons, List.filter_cons, upb_same, hbi, List.filter_congr hsame]
                simp
              · have hne : x ≠ i := fun e => hx (e ▸ hm)
                rw [List.filter_cons, List.filter_cons, upb_ne hne]
                have := ih hr hm
                split
                · simp only [List.length_cons]; omega
                · exact this
          have := key _ (List.nodup_range) h1
          omega
      simp only [wpOps, ho]
      have := hstep i ops[i] b a w ho hbi hpre hI _ hrest
      split
      · rename_i hw; rw [if_pos hw] at this; exact .inl this
      · rename_i hw; rw [if_neg hw] at this; exact this
    · rename_i hi
      have hnil : rdy ops listed = [] := by
        cases hr : rdy ops listed with
        | nil => rfl
        | cons x r =>
          rw [hr] at hi
          have : t % (x :: r).length < (x :: r).length := Nat.mod_lt _ (by simp)
          rw [List.getElem?_eq_getElem this] at hi
          cases hi
      refine hfin b a w (fun i hi => ?_) hI
      induction i using Nat.strongRecOn with
      | _ i ih =>
        cases hbi : b i with
        | true => rfl
        | false =>
          exfalso
          have ho : ops[i]? = some ops[i] := Array.getElem?_eq_getElem hi
          have : i ∈ rdy ops listed := by
            refine List.mem_filter.2 ⟨List.mem_range.2 hi, ?_⟩
            rw [Bool.and_eq_true, Bool.not_eq_true', hb i hi, ho, Option.map_some, Option.getD_some]
            refine ⟨hbi, (all_nd ops[i] (fun e => listed.getD e false)).2 (fun e he => ?_)⟩
            have hlt := hed i _ ho e he
            rw [hget e (by omega)]
            exact ih e hlt (by omega)
          rw [hnil] at this
          cases this
theorem lin_wp {id : Nat} {a : Act} {w : World} (hm : P.follows .mixedOrders = true) (hed : ∀ i o, ops[i]? = some o → ∀ e ∈ ndO o, e < i) (I : (Nat → Bool) → Act → World → Prop)
    (hstep : ∀ i o b a w, ops[i]? = some o → b i = false → (∀ e ∈ ndO o, b e = true) → I b a w → ∀ K : Act → World → Prop, (∀ a' w', I (upb b i) a' w' → K a' w') → if Region.wanted o (yielded ops a.tmps) = true then Oper.wp P o a w K Q else K (a.put o.dst undef) w)
    (hfin : ∀ b a w, (∀ i, i < ops.size → b i = true) → I b a w → Q .normal a w) (hI : I (fun _ => false) a w.drew) : (Code.region id ops true).wp P Q a w := by
  refine wp_region_draw (fun t => ?_)
  have e : Region.schedule (P.follows .mixedOrders) ops t = tl ops ops.size t (Array.replicate ops.size false) := by
    unfold Region.schedule
    rw [hm, Bool.true_or, if_pos rfl]
    unfold Region.linearise
    rw [go_tl]
    rfl
  rw [e]
  refine tl_wp hed I hstep hfin _ _ _ (fun _ => false) a _ (by simp) (fun i hi => by simp [Array.getD, hi]) ?_ hI
  exact Nat.le_trans (List.length_filter_le _ _) (by simp)
end
/-! ### what is read and set, as numbers -/
def msk : List Nat → Nat
  | [] => 0
  | p :: r => 2 ^ p ||| msk r
theorem msk_bit {p : Nat} : ∀ {l : List Nat}, (msk l).testBit p = true ↔ p ∈ l
  | [] => by simp [msk]
  | q :: r => by
    simp only [msk, Nat.testBit_or, Bool.or_eq_true, msk_bit (l := r), List.mem_cons, Nat.testBit_two_pow]
    constructor
    · rintro (h | h)
      · exact .inl (by simpa using h : q = p).symm
      · exact .inr h
    · rintro (h | h)
      · exact .inl (by simp [h])
      · exact .inr h
theorem and_zero {m k p : Nat} (h : (m &&& k) = 0) (h1 : m.testBit p = true) (h2 : k.testBit p = true) : False := by
  have := congrArg (fun x => x.testBit p) h
  simp [Nat.testBit_and, h1, h2] at this
def ancF (acc : List Nat) : List Nat → Nat
  | [] => 0
  | e :: r => (2 ^ e ||| acc.getD e 0) ||| ancF acc r
def ancs : List (List Nat) → List Nat → List Nat
  | [], acc => acc
  | r :: rs, acc => ancs rs (acc ++ [ancF acc r])
def okE : Nat → List (List Nat) → Bool
  | _, [] => true
  | i, r :: rs => r.all (fun e => Nat.blt e i) && okE (i + 1) rs
def confI (B : List Nat) (F : List (Nat × Nat)) (i bi ri : Nat) : Nat → List (Nat × Nat) → List Nat → Bool
  | j, f :: fs, bj :: bs => (Nat.beq i j || (Nat.beq (f.2 &&& ri) 0 || (bi.testBit j || bj.testBit i))) && confI B F i bi ri (j + 1) fs bs
  | _, _, _ => true
def confA (B : List Nat) (F : List (Nat × Nat)) : Nat → List (Nat × Nat) → List Nat → Bool
  | i, f :: fs, b :: bs => confI B F i b f.1 0 F B && confA B F (i + 1) fs bs
  | _, _, _ => true
def conf (B : List Nat) (F : List (Nat × Nat)) : Bool := confA B F 0 F B
def runD {α : Type} (E : Env) (n : Nat) (ops : Array Oper) : List Oper → St → List (Nat × Nat) → (St → List (Nat × Nat) → Option α) → Option α
  | [], σ, F, K => K σ F
  | o :: r, σ, F, K => gateK E n ops o σ fun σ' ws => runD E n ops r (app ws σ') (F ++ [(msk (rdO ops σ o) ||| msk (ws.map (·.1)), msk (ws.map (·.1)))]) K
theorem confI_at {B : List Nat} {F : List (Nat × Nat)} {i bi ri : Nat} : ∀ {fs : List (Nat × Nat)} {bs : List Nat} {k j : Nat} {f : Nat × Nat} {bj : Nat}, confI B F i bi ri k fs bs = true → fs[j]? = some f → bs[j]? = some bj → i ≠ k + j → (f.2 &&& ri) = 0 ∨ bi.testBit (k + j) = true ∨ bj.testBit i = true
  | f :: fs, b :: bs, k, 0, _, _, h, h1, h2, hne => by
    cases h1
    cases h2
    simp only [confI, Bool.and_eq_true, Bool.or_eq_true] at h
    rcases h.1 with h | h | h | h
    · exact absurd (Nat.eq_of_beq_eq_true h) hne
    · exact .inl (Nat.eq_of_beq_eq_true h)
    · exact .inr (.inl h)
    · exact .inr (.inr h)
  | f :: fs, b :: bs, k, j + 1, f', bj, h, h1, h2, hne => by
    simp only [confI, Bool.and_eq_true] at h
    have := confI_at (j := j) h.2 (by simpa using h1) (by simpa using h2) (by omega)
    rwa [show k + 1 + j = k + (j + 1) by omega] at this
  | [], _, _, _, _, _, _, h1, _, _ => by simp at h1
  | _ :: _, [], _, _, _, _, _, _, h2, _ => by simp at h2
theorem confA_at {B : List Nat} {F : List (Nat × Nat)} : ∀ {fs : List (Nat × Nat)} {bs : List Nat} {k i : Nat} {f : Nat × Nat} {b : Nat}, confA B F k fs bs = true → fs[i]? = some f → bs[i]? = some b → confI B F (k + i) b f.1 0 F B = true
  | f :: fs, b :: bs, k, 0, _, _, h, h1, h2 => by
    cases h1
    cases h2
    simp only [confA, Bool.and_eq_true] at h
    exact h.1
  | f :: fs, b :: bs, k, i + 1, f', b', h, h1, h2 => by
    simp only [confA, Bool.and_eq_true] at h
    have := confA_at (i := i) h.2 (by simpa using h1) (by simpa using h2)
    rwa [show k + 1 + i = k + (i + 1) by omega] at this
  | [], _, _, _, _, _, _, h1, _ => by simp at h1
  | _ :: _, [], _, _, _, _, _, _, h2 => by simp at h2
theorem conf_at {B : List Nat} {F : List (Nat × Nat)} (h : conf B F = true) {i j : Nat} {f g : Nat × Nat} {bi bj : Nat} (hi : F[i]? = some f) (hj : F[j]? = some g) (hbi : B[i]? = some bi) (hbj : B[j]? = some bj) (hne : i ≠ j) {p : Nat} (hp : f.1.testBit p = true) (hq : g.2.testBit p = true) : bi.testBit j = true ∨ bj.testBit i = true := by
  have h1 := confA_at h hi hbi
  rw [Nat.zero_add] at h1
  have h2 := confI_at (j := j) h1 hj hbj (by omega)
  rw [Nat.zero_add] at h2
  rcases h2 with h2 | h2
  · exact (and_zero h2 hq hp).elim
  · exact h2
end Go.Proofs.YtbjgmnliholmpaaDoor.V

/- What the exported functions of package nat compute, in plain Lean over their printed forms: Add, Mul, DivMod; and same, few. -/
import Derived.Test.YtnkkndninilciaaDoorNat3
import Derived.Test.YtnkkndninilciaaDoorX6
import Derived.Test.YtnkkndninilciaaDoorX7
import Derived.Test.YtnkkndninilciaaDoorX9
namespace Go.Proofs.YtnkkndninilciaaDoor.M
open Go.RowKit Go.Proofs.YtnkkndninilciaaDoor.X Go.Proofs.YtnkkndninilciaaDoorW.PrintWords Go.Proofs.YtnkkndninilciaaDoorW.PrintLast Go.Proofs.YtnkkndninilciaaDoorW.PrintMore

/-- The number that a row stands for. -/
def val (l : List Int) : Nat := (V B l).toNat
theorem val_D (n : Nat) : val (D9 n) = n := by unfold val; rw [D9_V]; rfl
/-- A row that a caller may hand in, of at most N digits. -/
def Row (N : Nat) (l : List Int) : Prop := U32 l ∧ l.length ≤ N
theorem Row.D {N n : Nat} (h : (D9 n).length ≤ N) : Row N (D9 n) := ⟨fun x hx => by have := D9_lt n x hx; omega, h⟩
theorem Row.le {N M : Nat} {l : List Int} (h : Row N l) (hm : N ≤ M) : Row M l := ⟨h.1, by have := h.2; omega⟩
theorem Row.len {N : Nat} {l : List Int} (h : Row N l) : (D9 (val l)).length ≤ N + 1 := by
  have h1 := D_len_V B2 (l := l) (fun x hx => by have := h.1 x hx; show 0 ≤ x ∧ x ≤ 1000000000 * 1000000000 - 1000000000; omega)
  have h2 := h.2
  unfold val
  show (M.D B _).length ≤ _
  omega
theorem Row.of {N : Nat} {l : List Int} (h : Row N l) (hN : N ≤ 100000) : Ev (fun k => nat_of.f k l) (D9 (val l)) := of_f l h.1 (by have := h.2; omega)
theorem rd_L2_nat (L : List (List Int)) (i : Nat) : rd_L2 L (i : Int) = L.getD i [] := by unfold rd_L2; simp
theorem getD_append (p : List (List Int)) (x : List Int) (s : List (List Int)) : (p ++ x :: s).getD p.length [] = x := by simp [List.getD]

def sumV : List (List Int) → Nat
  | [] => 0
  | l :: L => val l + sumV L
theorem plus_fold (s : List (List Int)) : ∀ (p : List (List Int)) (n : Nat), (∀ l ∈ s, Row 10000 l) → (D9 n).length + 10010 * s.length ≤ 900000 → p.length + s.length ≤ 1000 →
    Ev (fun k => nat_folded_at_nat_number_plus.l0 k (p ++ s) ((p ++ s).length : Int) (p.length : Int) (D9 n)) (D9 (n + sumV s)) := by
  induction s with
  | nil =>
    intro p n hs hn hp
    refine Ev.step (f := fun k => (nat_number_row.f k (D9 n)).bind fun t => some t) (fun k => ?_) ?_
    · simp only [nat_folded_at_nat_number_plus.l0]
      rw [if_neg (by simp)]
    · exact Ev.bind (row_f n (by omega)) (Ev.now _)
  | cons l s ih =>
    intro p n hs hn hp
    have hl := hs l (by simp)
    simp only [List.length_cons] at hn hp
    refine Ev.step (f := fun k => (nat_of.f k l).bind fun t153 => (nat_number_plus.f k (D9 n) t153).bind fun t156 => nat_folded_at_nat_number_plus.l0 k ((p ++ [l]) ++ s) (((p ++ [l]) ++ s).length : Int) ((p ++ [l]).length : Int) t156) (fun k => ?_) ?_
    · simp only [nat_folded_at_nat_number_plus.l0]
      rw [if_pos (by simp; omega), if_pos (by omega), if_pos (by simp; omega), rd_L2_nat, getD_append, w64 (by omega) (by omega)]
      simp
    · have h1 := hl.len
      have h3 := hl.of (by decide)
      have h2 : (D9 (n + val l)).length ≤ (D9 n).length + (D9 (val l)).length + 1 := D_len_add B2 n (val l)
      refine Ev.bind h3 (Ev.bind (plus_f n (val l) (by omega) (by omega)) ?_)
      have e : n + sumV (l :: s) = n + val l + sumV s := by rw [sumV, Nat.add_assoc]
      rw [e]
      exact ih (p ++ [l]) (n + val l) (fun y hy => hs y (by simp [hy])) (by omega) (by simp; omega)
theorem Add_f (L : List (List Int)) (hL : ∀ l ∈ L, Row 10000 l) (hn : L.length ≤ 20) : Ev (fun k => nat_Add.f k L) (D9 (sumV L)) := by
  have := plus_fold L [] 0 hL (by rw [show D9 0 = [] from D_zero B]; simp; omega) (by simp; omega)
  rw [Nat.zero_add, show D9 0 = [] from D_zero B] at this
  unfold nat_Add.f
  exact Ev.bind this (Ev.now _)
theorem D9_nil {n : Nat} : (D9 n).length = 0 ↔ n = 0 := by
  constructor
  · intro h
    have := (D_len B2 (n := n) (k := 0)).1 (by show (D9 n).length ≤ 0; omega)
    simp at this
    exact this
  · intro h; subst h; rw [show D9 0 = [] from D_zero B]; rfl
theorem DivMod_f (l r : List Int) (hl : Row 10000 l) (hr : Row 10000 r) : Ev (fun k => nat_DivMod.f k l r) (if val r = 0 then ([], [], false) else (D9 (val l / val r), D9 (val l % val r), true)) := by
  have h1 := hl.len
  have h2 := hr.len
  unfold nat_DivMod.f
  refine Ev.bind (hr.of (by omega)) ?_
  by_cases h : val r = 0
  · rw [if_pos h]
    refine Ev.congr (fun k => if_pos ?_) (Ev.now _)
    have := D9_nil.2 h
    omega
  · rw [if_neg h]
    refine Ev.congr (fun k => if_neg ?_) ?_
    · intro h0
      exact h (D9_nil.1 (by omega))
    · have e1 : (D9 (val l / val r)).length ≤ (D9 (val l)).length := D_len_mono B2 (Nat.div_le_self _ _)
      have e2 : (D9 (val l % val r)).length ≤ (D9 (val l)).length := D_len_mono B2 (Nat.mod_le _ _)
      exact Ev.bind (hl.of (by omega)) (Ev.bind (parted_f _ _ (by omega) (by omega) (by omega)) (Ev.bind (row_f _ (by omega)) (Ev.bind (row_f _ (by omega)) (Ev.now _))))

theorem limbs_l0 (a b : List Int) (he : a.length = b.length) (hl : a.length ≤ 1000000000) (q : Nat) : ∀ (i : Nat), i + q = a.length → a.take i = b.take i →
    Ev (fun k => whetstonekit_SameLimbs.l0 k a b (i : Int)) (decide (a = b)) := by
  induction q with
  | zero =>
    intro i hi ht
    rw [List.take_of_length_le (by omega), List.take_of_length_le (by omega)] at ht
    refine Ev.step (f := fun _ => some true) (fun k => ?_) (by rw [decide_eq_true ht]; exact Ev.now _)
    simp only [whetstonekit_SameLimbs.l0]
    rw [if_neg (by omega)]
  | succ q ih =>
    intro i hi ht
    by_cases h : a.getD i 0 = b.getD i 0
    · refine Ev.step (f := fun k => whetstonekit_SameLimbs.l0 k a b ((i + 1 : Nat) : Int)) (fun k => ?_) (ih (i + 1) (by omega) ?_)
      · simp only [whetstonekit_SameLimbs.l0]
        rw [if_pos (by omega), if_pos (by omega), if_pos (by omega), rd_nat, rd_nat, if_pos h, w64 (by omega) (by omega)]
        rfl
      · rw [List.take_succ_eq_append_getElem (by omega), List.take_succ_eq_append_getElem (by omega), ht]
        simp only [List.getD, show i < a.length by omega, show i < b.length by omega, List.getElem?_eq_getElem, Option.getD_some] at h
        rw [h]
    · refine Ev.step (f := fun _ => some false) (fun k => ?_) (by rw [decide_eq_false (fun e => h (by rw [e]))]; exact Ev.now _)
      simp only [whetstonekit_SameLimbs.l0]
      rw [if_pos (by omega), if_pos (by omega), if_pos (by omega), rd_nat, rd_nat, if_neg h]
theorem same_f (a b : List Int) (hl : a.length ≤ 1000000000) : Ev (fun k => whetstonelaw01_same.f k a b) (decide (a = b)) := by
  unfold whetstonelaw01_same.f
  refine Ev.bind (a := decide (a = b)) ?_ (Ev.now _)
  unfold whetstonekit_SameLimbs.f
  by_cases he : a.length = b.length
  · exact Ev.congr (fun k => if_pos (by omega)) (limbs_l0 a b he hl a.length 0 (by omega) rfl)
  · rw [decide_eq_false (fun e => he (by rw [e]))]
    exact Ev.congr (fun k => if_neg (by omega)) (Ev.now _)
theorem same_D (n m : Nat) (h : (D9 n).length ≤ 1000000000) : Ev (fun k => whetstonelaw01_same.f k (D9 n) (D9 m)) (decide (n = m)) := by
  have := same_f (D9 n) (D9 m) h
  rwa [show decide (D9 n = D9 m) = decide (n = m) from decide_eq_decide.2 ⟨fun h => D_inj B2 h, fun h => by rw [h]⟩] at this

/-- few: at most eight rows of at most forty digits. -/
def fewB (L : List (List Int)) : Bool := L.all (fun l => decide (l.length ≤ 40)) && decide (L.length ≤ 8)
theorem few_l0 (s : List (List Int)) : ∀ (p : List (List Int)), (p ++ s).length ≤ maxLen → Ev (fun k => whetstonelaw01_few.l0 k (p ++ s) (p.length : Int)) (s.all (fun l => decide (l.length ≤ 40)) && decide ((p ++ s).length ≤ 8)) := by
  induction s with
  | nil =>
    intro p hp
    refine Ev.step (f := fun _ => some _) (fun k => ?_) (Ev.now _)
    simp only [whetstonelaw01_few.l0]
    rw [if_neg (by simp)]
    simp
    omega
  | cons l s ih =>
    intro p hp
    have hpl : p.length < maxLen := by simp at hp; omega
    by_cases h : l.length ≤ 40
    · refine Ev.step (f := fun k => whetstonelaw01_few.l0 k ((p ++ [l]) ++ s) ((p ++ [l]).length : Int)) (fun k => ?_) ?_
      · simp only [whetstonelaw01_few.l0]
        rw [if_pos (by simp; omega), if_pos (by omega), rd_L2_nat, getD_append, if_neg (by omega), w64 (by omega) (by unfold maxLen at hpl; omega)]
        simp
      · have := ih (p ++ [l]) (by simpa using hp)
        simpa [h] using this
    · refine Ev.step (f := fun _ => some _) (fun k => ?_) (Ev.now _)
      simp only [whetstonelaw01_few.l0]
      rw [if_pos (by simp; omega), if_pos (by omega), rd_L2_nat, getD_append, if_pos (by omega)]
      simp [h]
theorem few_f (L : List (List Int)) (h : L.length ≤ maxLen) : Ev (fun k => whetstonelaw01_few.f k L) (fewB L) := few_l0 L [] (by simpa using h)
end Go.Proofs.YtnkkndninilciaaDoor.M

/- What Of computes, the program's and the reference's: on a row of decimal digits without a leading nought the number, else false. -/
import Derived.Test.YtnkkndninilciaaDoorNat4
import Derived.Test.YtnkkndninilciaaDoorX13
import Derived.Lib.Strings
namespace Go.Proofs.YtnkkndninilciaaDoor.M
open Go.RowKit Go.Proofs.YtnkkndninilciaaDoor.X Go.Proofs.YtnkkndninilciaaDoorW.PrintWords Go.Proofs.YtnkkndninilciaaDoorW.PrintLast Go.Proofs.YtnkkndninilciaaDoorW.PrintMore

/-- The number that decimal digits spell, the highest first. -/
def dv (l : List UInt8) : Nat := l.foldl (fun a c => a * 10 + (c.toNat - 48)) 0
/-- A decimal digit's byte. -/
def isDig (c : UInt8) : Prop := 48 ≤ c.toNat ∧ c.toNat ≤ 57
instance (c : UInt8) : Decidable (isDig c) := inferInstanceAs (Decidable (_ ∧ _))
def allDig (l : List UInt8) : Bool := l.all (fun c => decide (isDig c))
theorem allDig_iff {l : List UInt8} : allDig l = true ↔ ∀ c ∈ l, isDig c := by
  unfold allDig
  rw [List.all_eq_true]
  exact ⟨fun h c hc => of_decide_eq_true (h c hc), fun h c hc => decide_eq_true (h c hc)⟩
theorem allDig_no {l : List UInt8} (h : ¬ ∀ c ∈ l, isDig c) : allDig l = false := by
  cases e : allDig l
  · rfl
  · exact absurd (allDig_iff.1 e) h
theorem dv_foldl (l : List UInt8) (a : Nat) : l.foldl (fun a c => a * 10 + (c.toNat - 48)) a = a * 10 ^ l.length + dv l := by
  induction l generalizing a with
  | nil => simp [dv]
  | cons c l ih =>
    have h := ih (c.toNat - 48)
    simp only [dv, List.foldl_cons, List.length_cons, Nat.zero_mul, Nat.zero_add] at h ⊢
    rw [ih, h, Nat.add_mul, Nat.pow_succ, Nat.mul_comm (10 ^ l.length), ← Nat.mul_assoc, Nat.add_assoc]
    rfl
theorem dv_append (l r : List UInt8) : dv (l ++ r) = dv l * 10 ^ r.length + dv r := by
  unfold dv
  rw [List.foldl_append, dv_foldl]
  rfl
theorem dv_one (c : UInt8) : dv [c] = c.toNat - 48 := by simp [dv]
theorem dv_lt (l : List UInt8) (h : ∀ c ∈ l, isDig c) : dv l < 10 ^ l.length := by
  induction l with
  | nil => simp [dv]
  | cons c l ih =>
    have h1 := ih (fun x hx => h x (by simp [hx]))
    have h2 : isDig c := h c (by simp)
    unfold isDig at h2
    have e : dv (c :: l) = dv [c] * 10 ^ l.length + dv l := dv_append [c] l
    rw [e, dv_one, List.length_cons, Nat.pow_succ]
    have h3 : (c.toNat - 48 + 1) * 10 ^ l.length ≤ 10 * 10 ^ l.length := Nat.mul_le_mul_right _ (by omega)
    rw [Nat.add_mul] at h3
    omega
theorem parse_dv (r : List UInt8) (h : ∀ c ∈ r, isDig c) : ∀ a : Nat, (a + 1) * 10 ^ r.length ≤ 1000000000000000000 → Lib.parseUintM (2 ^ 64 - 1) a r = .ok (r.foldl (fun a c => a * 10 + (c.toNat - 48)) a) := by
  induction r with
  | nil => intro a _; rfl
  | cons c r ih =>
    intro a ha
    have h2 : isDig c := h c (by simp)
    rw [List.length_cons, Nat.pow_succ] at ha
    have hp : 1 ≤ 10 ^ r.length := Nat.pow_pos (by omega)
    have ha1 : (a + 1) * (1 * 10) ≤ (a + 1) * (10 ^ r.length * 10) := Nat.mul_le_mul_left _ (Nat.mul_le_mul_right _ hp)
    unfold isDig at h2
    rw [Lib.parseUintM, if_pos h2, if_neg (by omega), if_neg (by omega)]
    refine ih (fun x hx => h x (by simp [hx])) _ ?_
    have : (a * 10 + (c.toNat - 48) + 1) * 10 ^ r.length ≤ ((a + 1) * 10) * 10 ^ r.length := Nat.mul_le_mul_right _ (by omega)
    rw [Nat.mul_assoc, Nat.mul_comm 10] at this
    omega
theorem parse_f (s : ByteArray) (h : ∀ c ∈ s.data.toList, isDig c) (h0 : s.data.toList ≠ []) (h9 : s.size ≤ 9) : strconv_ParseUint.f s 10 64 = some ((dv s.data.toList : Int), none) := by
  unfold strconv_ParseUint.f
  have hl : s.data.toList.length ≤ 9 := by rw [← Lib.size_eq]; exact h9
  rw [if_pos rfl, if_pos rfl, if_pos (by omega), Lib.parseUintB, if_neg h0, parse_dv _ h 0 (by
    have : 10 ^ s.data.toList.length ≤ 10 ^ 9 := Nat.pow_le_pow_right (by omega) hl
    omega)]
  rfl
theorem bt_eq (s : ByteArray) (i : Nat) (h : i < s.size) : bt s (i : Int) = ((s.data.toList[i]'(by rw [← Lib.size_eq]; exact h)).toNat : Int) := by
  unfold bt
  rw [Int.toNat_natCast, dif_pos h]
  rfl

theorem decimal_l0 (s : ByteArray) (hs : s.size ≤ 1000000) (q : Nat) : ∀ (i : Nat), i + q = s.size →
    Ev (fun k => nat_decimal.l0 k s (s.size : Int) (i : Int)) (allDig (s.data.toList.drop i)) := by
  induction q with
  | zero =>
    intro i hi
    have hl := Lib.size_eq s
    rw [List.drop_eq_nil_of_le (by omega)]
    refine Ev.step (f := fun _ => some true) (fun k => ?_) (Ev.now _)
    simp only [nat_decimal.l0]
    rw [if_neg (by omega)]
  | succ q ih =>
    intro i hi
    have hl := Lib.size_eq s
    have hil : i < s.data.toList.length := by omega
    have hb := bt_eq s i (by omega)
    rw [List.drop_eq_getElem_cons hil]
    obtain ⟨c, hc⟩ : ∃ c, c = s.data.toList[i]'hil := ⟨_, rfl⟩
    rw [← hc] at hb ⊢
    by_cases h1 : isDig c
    · have e : allDig (c :: s.data.toList.drop (i + 1)) = allDig (s.data.toList.drop (i + 1)) := by
        unfold allDig
        rw [List.all_cons, decide_eq_true h1, Bool.true_and]
      rw [e]
      unfold isDig at h1
      refine Ev.step (f := fun k => nat_decimal.l0 k s (s.size : Int) ((i + 1 : Nat) : Int)) (fun k => ?_) (ih (i + 1) (by omega))
      simp only [nat_decimal.l0]
      rw [if_pos (by omega), if_pos (by omega), if_pos (by omega), hb, if_neg (by omega), if_neg (by omega), w64 (by omega) (by omega)]
      rfl
    · have e : allDig (c :: s.data.toList.drop (i + 1)) = false := allDig_no (fun h => h1 (h c (by simp)))
      rw [e]
      unfold isDig at h1
      refine Ev.step (f := fun _ => some false) (fun k => ?_) (Ev.now _)
      simp only [nat_decimal.l0]
      rw [if_pos (by omega), if_pos (by omega), if_pos (by omega), hb]
      by_cases h2 : (c.toNat : Int) < 48
      · rw [if_pos h2]
      · rw [if_neg h2, if_pos (by omega)]
theorem decimal_f (s : ByteArray) (hs : s.size ≤ 1000000) : Ev (fun k => nat_decimal.f k s) (allDig s.data.toList) := by
  have := decimal_l0 s hs s.size 0 (by omega)
  rwa [List.drop_zero] at this

theorem of_go (n : Nat) : ∀ (s : ByteArray) (o : List Int), s.size ≤ n → n ≤ 100000 → o.length + s.size ≤ 100000 → Dig B o → (∀ c ∈ s.data.toList, isDig c) →
    Ev (fun k => nat_Of.l0 k s o) (D9 ((V B o).toNat + B ^ o.length * dv s.data.toList), true) := by
  induction n with
  | zero =>
    intro s o hs _ ho hd _
    have hl := Lib.size_eq s
    have : s.data.toList = [] := List.eq_nil_of_length_eq_zero (by omega)
    rw [this]
    simp only [dv, List.foldl_nil, Nat.mul_zero, Nat.add_zero]
    refine Ev.step (f := fun k => (nat_carried.f k o).bind fun t599 => ((nat_number_row.f k t599).bind fun t602 => (some (t602, true)))) (fun k => ?_) ?_
    · simp only [nat_Of.l0]
      rw [if_neg (by omega)]
    · have h1 : (D9 (V B o).toNat).length ≤ o.length + 1 := D_len_V B2 (fun x hx => by have := Dig9 hd x hx; show 0 ≤ x ∧ x ≤ 1000000000 * 1000000000 - 1000000000; omega)
      exact Ev.bind (carried_f o (fun x hx => by have := Dig9 hd x hx; omega) (by omega)) (Ev.bind (row_f _ (by omega)) (Ev.now _))
  | succ n ih =>
    intro s o hs hn ho hd hg
    by_cases h0 : s.size = 0
    · exact ih s o (by omega) (by omega) ho hd hg
    · have hl := Lib.size_eq s
      obtain ⟨lo, hlo⟩ : ∃ lo : Nat, lo = s.size - 9 := ⟨_, rfl⟩
      have e1 : mx (wrap64 ((s.size : Int) - 9)) 0 = (lo : Int) := by
        rw [w64 (by omega) (by omega)]
        unfold mx
        split <;> omega
      have e2 : (s.extract lo s.size).data.toList = s.data.toList.drop lo := by
        rw [Lib.extract_data, List.take_of_length_le (by simp; try omega)]
      have e3 : (s.extract 0 lo).data.toList = s.data.toList.take lo := by
        rw [Lib.extract_data]; simp
      have z2 : (s.extract lo s.size).size = s.size - lo := by rw [Lib.size_eq, e2, List.length_drop]; omega
      have z3 : (s.extract 0 lo).size = lo := by rw [Lib.size_eq, e3, List.length_take]; omega
      have hp := parse_f (s.extract lo s.size) (by rw [e2]; exact fun c hc => hg c (List.mem_of_mem_drop hc)) (by rw [e2]; intro h; have := congrArg List.length h; simp at this; omega) (by omega)
      rw [e2] at hp
      have hlt : dv (s.data.toList.drop lo) < 1000000000 := by
        have h1 := dv_lt (s.data.toList.drop lo) (fun c hc => hg c (List.mem_of_mem_drop hc))
        have h2 : 10 ^ (s.data.toList.drop lo).length ≤ 10 ^ 9 := Nat.pow_le_pow_right (by omega) (by simp; omega)
        omega
      have ih' := ih (s.extract 0 lo) (o ++ [((dv (s.data.toList.drop lo) : Nat) : Int)]) (by omega) (by omega) (by simp; omega) (Dig.snoc hd (by omega) (by show _ < (1000000000 : Int); omega)) (by rw [e3]; exact fun c hc => hg c (List.mem_of_mem_take hc))
      have hv0 := V_nonneg (b := (B : Int)) (by decide) hd.nonneg
      have ev : (V B (o ++ [((dv (s.data.toList.drop lo) : Nat) : Int)])).toNat + B ^ (o ++ [((dv (s.data.toList.drop lo) : Nat) : Int)]).length * dv (s.extract 0 lo).data.toList = (V B o).toNat + B ^ o.length * dv s.data.toList := by
        rw [V_snoc, e3, List.length_append, List.length_singleton, Nat.pow_succ]
        have a1 : (B : Int) ^ o.length * ((dv (s.data.toList.drop lo) : Nat) : Int) = ((B ^ o.length * dv (s.data.toList.drop lo) : Nat) : Int) := by rw [Int.natCast_mul]; simp
        rw [a1, Int.toNat_add hv0 (Int.natCast_nonneg _), Int.toNat_natCast]
        have a2 : dv s.data.toList = dv (s.data.toList.take lo) * 10 ^ (s.data.toList.drop lo).length + dv (s.data.toList.drop lo) := by rw [← dv_append, List.take_append_drop]
        have a3 : dv (s.data.toList.take lo) * 10 ^ (s.data.toList.drop lo).length = dv (s.data.toList.take lo) * B := by
          by_cases h9 : 9 ≤ s.size
          · rw [show (s.data.toList.drop lo).length = 9 by rw [List.length_drop]; omega]
          · rw [show lo = 0 by omega]; simp [dv]
        rw [a2, a3, Nat.mul_add, Nat.add_assoc, Nat.mul_comm (dv (s.data.toList.take lo)) B, ← Nat.mul_assoc, Nat.add_comm (B ^ o.length * dv (s.data.toList.drop lo))]
      rw [ev] at ih'
      refine Ev.step (fun k => ?_) ih'
      simp only [nat_Of.l0]
      rw [if_pos (by omega), e1, if_pos (by omega), if_pos (by omega), Int.toNat_natCast, hp]
      simp only [Option.bind_some]
      rw [if_pos (by omega)]

/-- A number as Of takes it. -/
def okNum (s : ByteArray) : Bool := decide (s.size ≠ 0) && !(decide (1 < s.size) && decide (bt s 0 = 48)) && allDig s.data.toList
theorem toList_nil (s : ByteArray) : s.toList = ([] : List UInt8) ↔ s.size = 0 := by
  obtain ⟨⟨l⟩⟩ := s
  simp [ByteArray.size]
theorem Of_f (s : ByteArray) (hs : s.size ≤ 90000) : Ev (fun k => nat_Of.f k s) (if okNum s = true then (D9 (dv s.data.toList), true) else ([], false)) := by
  have no : Ev (fun k => nat_Of.j0 k s true) (([] : List Int), false) := Ev.step (f := fun _ => some ([], false)) (fun k => by simp only [nat_Of.j0]; rw [if_pos trivial]) (Ev.now _)
  have yes : (∀ c ∈ s.data.toList, isDig c) → Ev (fun k => nat_Of.j0 k s false) (D9 (dv s.data.toList), true) := fun h => by
    have := of_go s.size s [] (Nat.le_refl _) (by omega) (by simp; omega) (Dig.nil _) h
    simp only [V, List.length_nil, Nat.pow_zero, Nat.one_mul, Int.toNat_zero, Nat.zero_add] at this
    exact Ev.step (f := fun k => nat_Of.l0 k s []) (fun k => by simp only [nat_Of.j0]; rw [if_neg (by simp)]) this
  have tail : Ev (fun k => (nat_decimal.f k s).bind fun t => nat_Of.j0 k s (!t)) (if allDig s.data.toList = true then (D9 (dv s.data.toList), true) else ([], false)) := by
    refine Ev.bind (decimal_f s (by omega)) ?_
    by_cases h : ∀ c ∈ s.data.toList, isDig c
    · rw [if_pos (allDig_iff.2 h), allDig_iff.2 h]; exact yes h
    · rw [if_neg (by rw [allDig_no h]; simp), allDig_no h]; exact no
  unfold nat_Of.f
  by_cases h0 : s.size = 0
  · rw [show okNum s = false by simp [okNum, h0], if_neg (by simp)]
    exact Ev.congr (fun k => if_pos ((toList_nil s).2 h0)) no
  · refine Ev.congr (fun k => if_neg (fun h => h0 ((toList_nil s).1 h))) ?_
    by_cases h1 : 1 < s.size
    · refine Ev.congr (fun k => if_pos (by omega)) (Ev.congr (fun k => if_pos (by omega)) ?_)
      by_cases h2 : bt s 0 = 48
      · rw [show okNum s = false by simp [okNum, h1, h2], if_neg (by simp)]
        exact Ev.congr (fun k => if_pos h2) no
      · rw [show okNum s = allDig s.data.toList by simp [okNum, h0, h1, h2]]
        exact Ev.congr (fun k => if_neg h2) tail
    · rw [show okNum s = allDig s.data.toList by simp [okNum, h0, h1]]
      exact Ev.congr (fun k => if_neg (by omega)) tail
end Go.Proofs.YtnkkndninilciaaDoor.M

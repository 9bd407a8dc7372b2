/- What is left of NatRing, without Go: the ring laws, Sub undoes Add, and DivMod's law. -/
import Derived.Test.YtnkkndninilciaaDoorM
import Derived.Test.YtnkkndninilciaaDoorX1
import Derived.Test.YtnkkndninilciaaDoorX3
import Derived.Test.YtnkkndninilciaaDoorX7
import Derived.Test.YtnkkndninilciaaDoorX9
import Derived.Test.YtnkkndninilciaaDoorX11
import Derived.Test.YtnkkndninilciaaDoorX12
namespace Go.Proofs.YtnkkndninilciaaDoor.Pure
open Go.RowKit Go.Proofs.YtnkkndninilciaaDoor.M Go.Proofs.YtnkkndninilciaaDoor.X Go.Proofs.YtnkkndninilciaaDoorW.PrintWords Go.Proofs.YtnkkndninilciaaDoorW.PrintLast Go.Proofs.YtnkkndninilciaaDoorW.PrintMore
theorem Sub_f (l r : List Int) (h : Row 10000 l) (h' : Row 10000 r) : Ev (fun k=>nat_Sub.f k l r) (if val l < val r then([],false) else(D9 (val l - val r),true)):=by
 have h1:=h.len
 unfold nat_Sub.f
 refine Ev.bind (h.of (by omega)) (Ev.bind (h'.of (by omega)) (Ev.bind (compare_f _ _ (by omega)) ?_))
 by_cases g : val l < val r
 ·rw [if_pos g]
  exact Ev.congr (fun k=>if_pos (sgn_lt.2 (by omega))) (Ev.now _)
 ·rw [if_neg g]
  have e : (D9 (val l - val r)).length≤(D9 (val l)).length:=D_len_mono B2 (Nat.sub_le _ _)
  exact Ev.congr (fun k=>if_neg (fun h=>by rw [sgn_lt] at h;omega)) (Ev.bind (less_f _ _ (by omega) (by omega)) (Ev.bind (row_f _ (by omega)) (Ev.now _)))
theorem Right_f (n : Nat) (hn : (D9 n).length≤1000000) : Ev (fun k=>nat_Right.f k (D9 n)) true:=by
 have go (q : Nat) : ∀ (i : Nat),i + q = (D9 n).length→Ev (fun k=>nat_Right.l0 k (D9 n) (D9 n) ((D9 n).length : Int) (i : Int)) true:=by
  induction q with
  | zero=>
   intro i hi
   refine Ev.step (f:=fun _=>some true) (fun k=>?_) (Ev.now _)
   simp only [nat_Right.l0]
   rw [if_neg (by omega)]
   by_cases h0 : (D9 n).length = 0
   ·rw [if_pos (by omega)]
   ·have hne : D9 n≠[]:=fun h=>h0 (by rw [h];rfl)
    obtain⟨p,x,e⟩ : ∃ p x,D9 n = p ++ [x]:=⟨(D9 n).dropLast,(D9 n).getLast hne,(List.dropLast_concat_getLast hne).symm⟩
    have hlast:=D_last B2 n
    have hx : x≠0:=by
     intro hx
     apply hlast
     show(D9 n).getLast? = _
     rw [e,hx];simp
    have hl : (D9 n).length = p.length + 1:=by rw [e];simp
    have ew : wrap64 (((D9 n).length : Int) - 1) = (p.length : Int):=by rw [w64 (by omega) (by omega)];omega
    have er : rd (D9 n) (p.length : Int) = x:=by rw [e,rd_nat];simp [List.getD]
    rw [if_neg (by omega),ew,if_pos (by omega),if_pos (by omega),er]
    simp [hx]
  | succ q ih=>
   intro i hi
   have hx:=D9_at n i
   refine Ev.step (f:=fun k=>nat_Right.l0 k (D9 n) (D9 n) ((D9 n).length : Int) ((i + 1 : Nat) : Int)) (fun k=>?_) (ih (i + 1) (by omega))
   simp only [nat_Right.l0]
   rw [if_pos (by omega),if_pos (by omega),if_pos (by omega),rd_nat,if_neg (by omega),w64 (by omega) (by omega)]
   rfl
 exact go (D9 n).length 0 (by omega)
theorem same_true (n : Nat) (h : (D9 n).length≤1000000) : Ev (fun k=>whetstonelaw01_same.f k (D9 n) (D9 n)) true:=by
 have:=same_D n n (by omega)
 rwa [decide_eq_true rfl] at this
theorem ring_j4 (l0 l1 : List Int) (h0 : Row 40 l0) (h1 : Row 40 l1) (hb : val l1≠0) : Ev (fun k=>whetstonelaw01_NatRing.j4 k l0 l1 (D9 (val l0 / val l1)) (D9 (val l0 % val l1))) true:=by
 have n0:=h0.len
 have n1:=h1.len
 have q1 : (D9 (val l0 / val l1)).length≤(D9 (val l0)).length:=D_len_mono B2 (Nat.div_le_self _ _)
 have q2 : (D9 (val l0 % val l1)).length≤(D9 (val l0)).length:=D_len_mono B2 (Nat.mod_le _ _)
 have q3 : (D9 (val l0 / val l1 * val l1)).length≤(D9 (val l0)).length:=D_len_mono B2 (Nat.div_mul_le_self _ _)
 have rq : Row 10000 (D9 (val l0 / val l1)):=Row.D (by omega)
 have rr : Row 10000 (D9 (val l0 % val l1)):=Row.D (by omega)
 have rm : Row 10000 (D9 (val l0 / val l1 * val l1)):=Row.D (by omega)
 have H0:=h0.le (show 40≤10000 by decide)
 have H1:=h1.le (show 40≤10000 by decide)
 have hc:=Cmp_f (D9 (val l0 % val l1)) l1 rr H1
 rw [val_D] at hc
 have hlt : sgn ((val l0 % val l1 : Nat) : Int) (val l1 : Int) < 0:=sgn_lt.2 (Int.ofNat_lt.2 (Nat.mod_lt _ (by omega)))
 have hm:=Mul_f [D9 (val l0 / val l1),l1] (fun l hl=>by simp at hl;rcases hl with rfl | rfl <;> assumption) (by simp)
 rw [show prodV [D9 (val l0 / val l1),l1] = val l0 / val l1 * val l1 by simp [prodV,val_D]] at hm
 have ha:=Add_f [D9 (val l0 / val l1 * val l1),D9 (val l0 % val l1)] (fun l hl=>by simp at hl;rcases hl with rfl | rfl <;> assumption) (by simp)
 rw [show sumV [D9 (val l0 / val l1 * val l1),D9 (val l0 % val l1)] = val l0 by simp [sumV,val_D];rw [Nat.mul_comm];exact Nat.div_add_mod _ _] at ha
 refine Ev.step (f:=fun k=>_) (fun k=>by simp only [whetstonelaw01_NatRing.j4];rfl) ?_
 refine Ev.bind (Right_f _ (by omega)) (Ev.congr (fun k=>if_pos rfl) (Ev.bind (Right_f _ (by omega)) (Ev.congr (fun k=>if_pos rfl) (Ev.bind hc (Ev.congr (fun k=>if_pos hlt) (Ev.bind hm (Ev.bind ha (Ev.bind (Trim_f l0 H0) (Ev.bind (same_true _ (by omega)) (Ev.now _))))))))))
theorem ring_j3 (l0 l1 : List Int) (h0 : Row 40 l0) (h1 : Row 40 l1) : Ev (fun k=>whetstonelaw01_NatRing.j3 k l0 l1) true:=by
 have H0:=h0.le (show 40≤10000 by decide)
 have H1:=h1.le (show 40≤10000 by decide)
 have hd:=DivMod_f l0 l1 H0 H1
 refine Ev.step (f:=fun k=>_) (fun k=>by simp only [whetstonelaw01_NatRing.j3];rfl) ?_
 by_cases hb : val l1 = 0
 ·rw [if_pos hb] at hd
  refine Ev.bind hd (Ev.congr (fun k=>if_neg (by simp)) (Ev.bind (Trim_f l1 H1) (Ev.congr (f:=fun _=>some true) (fun k=>?_) (Ev.now _))))
  have h0:=D9_nil.2 hb
  rw [if_pos (by omega),show wrap64 (((([] : List Int),([] : List Int),false).1.length : Int) + ((([] : List Int),([] : List Int),false).2.1.length : Int)) = 0 from w64 (by decide) (by decide)]
  rfl
 ·rw [if_neg hb] at hd
  exact Ev.bind hd (Ev.congr (fun k=>if_pos rfl) (ring_j4 l0 l1 h0 h1 hb))
theorem ring_j2 (l0 l1 : List Int) (h0 : Row 40 l0) (h1 : Row 40 l1) : Ev (fun k=>whetstonelaw01_NatRing.j2 k l0 l1 (D9 (val l0 + val l1)) (D9 (val l0 * val l1))) true:=by
 have n0:=h0.len
 have n1:=h1.len
 have H0:=h0.le (show 40≤10000 by decide)
 have H1:=h1.le (show 40≤10000 by decide)
 have b1 : (D9 (val l0 + val l1)).length≤(D9 (val l0)).length + (D9 (val l1)).length + 1:=D_len_add B2 _ _
 have b2 : (D9 (val l0 * val l1)).length≤(D9 (val l0)).length + (D9 (val l1)).length:=D_len_mul B2 _ _
 have e1 : D9 1 = [1]:=D9_1 (by decide) (by decide)
 have b3 : (D9 (val l1 + 1)).length≤(D9 (val l1)).length + (D9 1).length + 1:=D_len_add B2 _ _
 rw [e1,List.length_singleton] at b3
 have s1:=Sub_f (D9 (val l0 + val l1)) l1 (Row.D (by omega)) H1
 rw [val_D,if_neg (by omega),Nat.add_sub_cancel] at s1
 have a1:=Add_f [l1,[1]] (fun l hl=>by
  simp at hl
  rcases hl with rfl | rfl
  ·exact H1
  ·rw [← e1];exact Row.D (by rw [e1];simp)) (by simp)
 rw [show sumV [l1,[1]] = val l1 + 1 by simp [sumV];rfl] at a1
 have s2:=Sub_f l1 (D9 (val l1 + 1)) H1 (Row.D (by omega))
 rw [val_D,if_pos (by omega)] at s2
 refine Ev.step (f:=fun k=>_) (fun k=>by simp only [whetstonelaw01_NatRing.j2];rfl) ?_
 refine Ev.bind s1 (Ev.bind a1 (Ev.bind s2 (Ev.congr (fun k=>if_pos rfl) (Ev.congr (fun k=>if_neg (by simp)) (Ev.bind (Trim_f l0 H0) (Ev.bind (same_true _ (by omega)) (Ev.congr (fun k=>if_pos rfl) (Ev.bind (Right_f _ (by omega)) (Ev.congr (fun k=>if_pos rfl) (Ev.bind (Right_f _ (by omega)) (Ev.congr (fun k=>if_pos rfl) (Ev.bind (Right_f _ (by omega)) (Ev.congr (fun k=>if_pos rfl) (ring_j3 l0 l1 h0 h1))))))))))))))
theorem ring_j1 (l0 l1 l2 : List Int) (h0 : Row 40 l0) (h1 : Row 40 l1) (h2 : Row 40 l2) : Ev (fun k=>whetstonelaw01_NatRing.j1 k l0 l1 l2) true:=by
 have n0:=h0.len
 have n1:=h1.len
 have n2:=h2.len
 have H0:=h0.le (show 40≤10000 by decide)
 have H1:=h1.le (show 40≤10000 by decide)
 have H2:=h2.le (show 40≤10000 by decide)
 have add2 (x y : List Int) (hx : Row 10000 x) (hy : Row 10000 y) : Ev (fun k=>nat_Add.f k [x,y]) (D9 (val x + val y)):=by
  have:=Add_f [x,y] (fun l hl=>by simp at hl;rcases hl with rfl | rfl <;> assumption) (by simp)
  rwa [show sumV [x,y] = val x + val y by simp [sumV]] at this
 have mul2 (x y : List Int) (hx : Row 10000 x) (hy : Row 10000 y) : Ev (fun k=>nat_Mul.f k [x,y]) (D9 (val x * val y)):=by
  have:=Mul_f [x,y] (fun l hl=>by simp at hl;rcases hl with rfl | rfl <;> assumption) (by simp)
  rwa [show prodV [x,y] = val x * val y by simp [prodV]] at this
 have a3:=Add_f [l0,l1,l2] (fun l hl=>by simp at hl;rcases hl with rfl | rfl | rfl <;> assumption) (by simp)
 rw [show sumV [l0,l1,l2] = val l0 + val l1 + val l2 by simp [sumV,Nat.add_assoc]] at a3
 have m3:=Mul_f [l0,l1,l2] (fun l hl=>by simp at hl;rcases hl with rfl | rfl | rfl <;> assumption) (by simp)
 rw [show prodV [l0,l1,l2] = val l0 * val l1 * val l2 by simp [prodV,Nat.mul_assoc]] at m3
 have b1 : (D9 (val l0 + val l1)).length≤(D9 (val l0)).length + (D9 (val l1)).length + 1:=D_len_add B2 _ _
 have b2 : (D9 (val l0 * val l1)).length≤(D9 (val l0)).length + (D9 (val l1)).length:=D_len_mul B2 _ _
 have b3 : (D9 (val l0 + val l1 + val l2)).length≤(D9 (val l0 + val l1)).length + (D9 (val l2)).length + 1:=D_len_add B2 _ _
 have b4 : (D9 (val l0 * val l1 * val l2)).length≤(D9 (val l0 * val l1)).length + (D9 (val l2)).length:=D_len_mul B2 _ _
 have b5 : (D9 (val l2 * (val l0 + val l1))).length≤(D9 (val l2)).length + (D9 (val l0 + val l1)).length:=D_len_mul B2 _ _
 have b6 : (D9 (val l2 * val l0)).length≤(D9 (val l2)).length + (D9 (val l0)).length:=D_len_mul B2 _ _
 have b7 : (D9 (val l2 * val l1)).length≤(D9 (val l2)).length + (D9 (val l1)).length:=D_len_mul B2 _ _
 have rs : Row 10000 (D9 (val l0 + val l1)):=Row.D (by omega)
 have rm : Row 10000 (D9 (val l0 * val l1)):=Row.D (by omega)
 have c1:=add2 l1 l0 H1 H0
 rw [Nat.add_comm] at c1
 have c2:=mul2 l1 l0 H1 H0
 rw [Nat.mul_comm] at c2
 have c3:=add2 _ l2 rs H2
 rw [val_D] at c3
 have c4:=mul2 _ l2 rm H2
 rw [val_D] at c4
 have c5:=mul2 l2 _ H2 rs
 rw [val_D] at c5
 have c6:=add2 (D9 (val l2 * val l0)) (D9 (val l2 * val l1)) (Row.D (by omega)) (Row.D (by omega))
 rw [val_D,val_D,← Nat.mul_add] at c6
 refine Ev.step (f:=fun k=>_) (fun k=>by simp only [whetstonelaw01_NatRing.j1];rfl) ?_
 refine Ev.bind (add2 l0 l1 H0 H1) (Ev.bind (mul2 l0 l1 H0 H1) (Ev.bind c1 (Ev.bind (same_true _ (by omega)) (Ev.congr (fun k=>if_pos rfl) (Ev.bind c2 (Ev.bind (same_true _ (by omega)) (Ev.congr (fun k=>if_pos rfl) (Ev.bind c3 (Ev.bind a3 (Ev.bind (same_true _ (by omega)) (Ev.congr (fun k=>if_pos rfl) (Ev.bind c4 (Ev.bind m3 (Ev.bind (same_true _ (by omega)) (Ev.congr (fun k=>if_pos rfl) (Ev.bind c5 (Ev.bind (mul2 l2 l0 H2 H0) (Ev.bind (mul2 l2 l1 H2 H1) (Ev.bind c6 (Ev.bind (same_true _ (by omega)) (Ev.congr (fun k=>if_pos rfl) (ring_j2 l0 l1 h0 h1))))))))))))))))))))))
theorem NatRing : ∀ (l0 : List (Int)) (l1 : List (Int)) (l2 : List (Int)),(l0.length≤maxLen∧∀ yl0 ∈ l0,(Lit.int .u32 yl0).wf = true)→(l1.length≤maxLen∧∀ yl1 ∈ l1,(Lit.int .u32 yl1).wf = true)→(l2.length≤maxLen∧∀ yl2 ∈ l2,(Lit.int .u32 yl2).wf = true)→∃ k,whetstonelaw01_NatRing.f k l0 l1 l2 = some true:=by
 intro l0 l1 l2 ⟨_,w0⟩ ⟨_,w1⟩ ⟨_,w2⟩
 refine Ev.rounds (g:=fun k=>whetstonelaw01_NatRing.f k l0 l1 l2) ?_
 unfold whetstonelaw01_NatRing.f
 refine Ev.bind awake_f (Ev.congr (fun k=>if_pos rfl) ?_)
 refine Ev.step (f:=fun k=>(whetstonelaw01_few.f k [l0,l1,l2]).bind fun t461=>(if t461 = true then(whetstonelaw01_NatRing.j1 k l0 l1 l2) else(some true))) (fun k=>by simp only [whetstonelaw01_NatRing.j0]) (Ev.bind (few_f [l0,l1,l2] (by unfold maxLen;simp)) ?_)
 by_cases hf : fewB [l0,l1,l2] = true
 ·refine Ev.congr (fun k=>if_pos hf) ?_
  simp [fewB] at hf
  exact ring_j1 l0 l1 l2 ⟨fun x hx=>u32_wf (w0 x hx),hf.1⟩ ⟨fun x hx=>u32_wf (w1 x hx),hf.2.1⟩ ⟨fun x hx=>u32_wf (w2 x hx),hf.2.2⟩
 ·exact Ev.congr (fun k=>if_neg hf) (Ev.now _)
end Go.Proofs.YtnkkndninilciaaDoor.Pure

-- Printed by xprint.py, this session's own program (wip/tool), out of the translation. Lean checks it.
import Derived.Test.YtnkkndninilciaaDoorZ
import Derived.Test.YtnkkndninilciaaDoorX0
import Derived.Test.YtnkkndninilciaaDoorX1
import Derived.Test.YtnkkndninilciaaDoorX3
import Derived.Test.YtnkkndninilciaaDoorX6
namespace Go.Proofs.YtnkkndninilciaaDoor.X
open Go.Proofs.YtnkkndninilciaaDoor.Z
open Go.RowKit Go.Proofs.YtnkkndninilciaaDoorW.PrintWords Go.Proofs.YtnkkndninilciaaDoorW.PrintLast Go.Proofs.YtnkkndninilciaaDoorW.PrintMore
open List renaming setIfInBounds_toArray → sA, set_cons_zero → sZ, set_cons_succ → sS
open Aside0 renaming mk → am
open Bool renaming true → tt, false → ff
set_option maxHeartbeats 8000000
set_option maxRecDepth 100000
attribute [local go_sem] max2_int min2_int max_two min_two max_three min_three max_four min_four   -- for this text's walks alone
set_option linter.unusedVariables false
set_option linter.unusedSimpArgs false

/-! ### nat_Text: function 22 -/
def nat_txtPad (d : Int) : List UInt8:=Lib.repeatL [48] (9 - (Lib.decDigits d.toNat).length) ++ Lib.decDigits d.toNat
def nat_txtLow (n : List Int) : Nat→List UInt8
 | 0=>[]
 | j + 1=>nat_txtPad (n.getD j 0) ++ nat_txtLow n j
def nat_txt (n : List Int) : List UInt8:=Lib.decDigits (n.getD (n.length - 1) 0).toNat ++ nat_txtLow n (n.length - 1)
def nat_Text.f (k : Nat) (l0 : List Int) : Option ByteArray:=(nat_of.f k l0).bind fun n=>(if n.all (fun d=>decide (0≤d∧d < 1000000000)) = true then(if n.length≤1000000000000000 then(if (nat_txt n).length≤140737488355328 then(some ⟨(nat_txt n).toArray⟩) else(none)) else(none)) else(none))
theorem nat_txt_at {n : List Int} (hn : n.all (fun d=>decide (0≤d∧d < 1000000000)) = true) (j : Nat) : 0≤n.getD j 0∧n.getD j 0 < 1000000000:=by
 rw [List.all_eq_true] at hn
 by_cases hj : j < n.length
 ·have h:=hn (n[j]) (List.getElem_mem hj)
  rw [decide_eq_true_eq] at h
  rw [List.getD_eq_getElem?_getD,List.getElem?_eq_getElem hj]
  exact h
 ·rw [List.getD_eq_getElem?_getD,List.getElem?_eq_none (by omega)]
  simp
theorem nat_at_f (n : List Int) (j d : Nat) (hj : j < n.length) (hd : (d : Int) = n.getD j 0) : nat_digits_at.f n (j : Int) = some (d : Int):=by
 unfold nat_digits_at.f
 rw [if_pos (by omega),if_pos (by omega),if_pos (by omega),hd]
 rfl
theorem nat_top_f (n : List Int) (hl : n.length≤1000000000000000) : nat_digits_top.f n = some (n.getD (n.length - 1) 0):=by
 have hw : wrap64 ((n.length : Int) - 1) = (n.length : Int) - 1:=by unfold wrap64;omega
 unfold nat_digits_top.f
 rw [hw]
 unfold nat_digits_at.f
 by_cases h0 : n.length = 0
 ·rw [if_neg (by omega),List.eq_nil_of_length_eq_zero h0]
  rfl
 ·rw [if_pos (by omega),if_pos (by omega),if_pos (by omega)]
  simp only [Option.bind_some]
  rw [show((n.length : Int) - 1) = ((n.length - 1 : Nat) : Int) from by omega]
  rfl
theorem nat_nd : ∀ (k u : Nat),u < 10 ^ (k + 1)→Lib.nDigits u≤k + 1
 | 0,u,h=>by rw [Lib.nDigits_small (by simpa using h)];omega
 | k + 1,u,h=>by
  by_cases hu : u < 10
  ·rw [Lib.nDigits_small hu];omega
  ·rw [Lib.nDigits_big hu]
   have:=nat_nd k (u / 10) (by rw [Nat.pow_succ] at h;omega)
   omega
theorem nat_dec9 (u : Nat) (h : u < 1000000000) : (Lib.decDigits u).length≤9:=by
 rw [Lib.decDigits_length]
 exact nat_nd 8 u (by simpa using h)
/-- What the walk of Text holds: the number's own block, the builder's, what lay there before. -/
structure nat_TI (w1 W : World) (gn : Nat) (A : Option Addr) (c : Nat) (n : List Int) (l : List UInt8) : Prop where
 blk : W.heap[gn]? = some (.cells #[.slice A n.length c] 47 (0,0))
 bld : Lib.IsBuilder 69 5 (gn + 1) (gn + 1) (Lib.byteCells l) W
 bel : Below gn w1 W
 lt : gn + 1≤W.heap.size
theorem nat_TI.step {w1 W W' : World} {gn : Nat} {A : Option Addr} {c : Nat} {n : List Int} {l : List UInt8} (h : nat_TI w1 W gn A c n l) (hb : Below W.heap.size W W') : nat_TI w1 W' gn A c n l where
 blk:=by rw [hb.block gn (by have:=h.lt;omega)];exact h.blk
 bld:=by
  have hs : ∀ p,Lib.BuilderAt 69 5 (gn + 1) (gn + 1) p (Lib.byteCells l) W→Lib.BuilderAt 69 5 (gn + 1) (gn + 1) p (Lib.byteCells l) W':=fun p hp=>by
   have hlt:=hp.lt
   obtain⟨h1,v,h2,h3,h4⟩:=hp
   exact⟨h1,v,by rw [hb.block _ hlt];exact h2,pw_own_below h3 hb,h4⟩
  rcases h.bld with hp | hp
  ·exact .inl (hs _ hp)
  ·exact .inr (hs _ hp)
 bel:=h.bel.trans (hb.mono (by have:=h.lt;omega))
 lt:=by have:=hb.size;have:=h.lt;omega
theorem nat_TI.cell {w1 W : World} {gn : Nat} {A : Option Addr} {c : Nat} {n : List Int} {l : List UInt8} (h : nat_TI w1 W gn A c n l) : W.cell? ⟨gn,0,none⟩ = some (.slice A n.length c):=by
 simp [World.cell?,h.blk]
theorem nat_TI.write {w1 W W' : World} {gn : Nat} {A : Option Addr} {c : Nat} {n : List Int} {l : List UInt8} (h : nat_TI w1 W gn A c n l) {s : ByteArray} (hp : Lib.BuilderAt 69 5 (gn + 1) (gn + 1) (.pointer (some ⟨gn + 1,0,none⟩)) (Lib.byteCells l ++ Lib.strCells s) W'∧Below (gn + 1) W W') : nat_TI w1 W' gn A c n (l ++ s.data.toList) where
 blk:=by rw [hp.2.block gn (by omega)];exact h.blk
 bld:=by rw [Lib.byteCells_append,← Lib.strCells_eq];exact .inr hp.1
 bel:=h.bel.trans (hp.2.mono (by omega))
 lt:=by have:=hp.2.size;have:=h.lt;omega
theorem nat_below_drew (w : World) (k : Nat) : Below w.heap.size w (w.drewN k):=by
 exact pw_below_drewN (Below.refl _ _) _
theorem nat_rep_len (j : Nat) : (Lib.repeatL [48] j).length = j:=by
 induction j with
 | zero=>rfl
 | succ j ih=>rw [Lib.repeatL,List.length_append,ih];simp;omega
theorem nat_Text.calls (k : Nat) (A0 : Option Addr) (c0 : Nat) (l0 : List Int) (r : ByteArray) (w : World) (hr0 : Kd.C (Kd.int .u32) w A0 l0.length l0) (hc0 : l0.length≤c0) (hG : GW w) (h : nat_Text.f k l0 = some r) :
  Calls Tryd.prog 22 #[.slice A0 l0.length c0] w fun e w'=>e = .returned (.string r)∧Below w.heap.size w w':=by
 unfold nat_Text.f at h
 obtain⟨n,hn,h⟩:=Option.bind_eq_some_iff.1 h
 by_cases hd : n.all (fun d=>decide (0≤d∧d < 1000000000)) = true
 ·rw [if_pos hd] at h
  by_cases hl : n.length≤1000000000000000
  ·rw [if_pos hl] at h
   by_cases ht : (nat_txt n).length≤140737488355328
   ·rw [if_pos ht] at h
    obtain rfl:=Option.some.inj h
    clear h
    have HD:=am hd
    have HT:=am ht
    have HN:=am hn
    have HR:=am hr0
    have HC:=am hc0
    have HG:=am hG
    clear hd ht hn hr0 hc0 hG
    go_enter Tryd.func22,Tryd.ntmps22
    go_wp2_with (go_at_call 31;refine(nat_of.calls k _ _ l0 n _ HR.out HC.out HN.out).mono ?_;rintro e w1 ⟨v0,rfl,ho0,hb⟩;obtain⟨A,c,rfl⟩:=Kd.R_slice ho0;have HA:=am (Kd.R_reads' ho0).2;have HB:=am hb;clear ho0 hb)
    obtain⟨gn,hgn⟩ : ∃ g : Nat,w1.heap.size = g:=⟨_,rfl⟩
    obtain⟨W,hW⟩ : ∃ W : World,(w1.alloc (.cells #[.slice A n.length c] 47)).alloc (.cells #[.pointer none,.slice none 0 0] 69) = W:=⟨_,rfl⟩
    have HI : Aside0 (nat_TI w1 W gn A c n []):=⟨by
     subst hW
     subst hgn
     refine⟨?_,?_,?_,?_⟩
     ·rw [(below_alloc (Below.refl (w1.alloc (.cells #[.slice A n.length c] 47)).heap.size _) _).block _ (by simp)]
      exact heap_alloc_new _ _
     ·have hs : (w1.alloc (.cells #[.slice A n.length c] 47)).heap.size = w1.heap.size + 1:=by simp
      rw [← hs]
      exact Lib.fresh_isBuilder _ _ _
     ·exact(below_alloc (Below.refl _ _) _).trans ((below_alloc (Below.refl _ _) _).mono (by simp))
     ·simp⟩
    rw [hW,hgn]
    clear hW
    obtain⟨top,htop⟩ : ∃ u : Nat,(u : Int) = n.getD (n.length - 1) 0:=⟨(n.getD (n.length - 1) 0).toNat,by have:=nat_txt_at HD.out (n.length - 1);omega⟩
    have htop9 : top < 1000000000:=by have:=nat_txt_at HD.out (n.length - 1);omega
    have hft : nat_digits_top.f n = some (top : Int):=by rw [htop];exact nat_top_f n hl
    have HTT:=am htop
    clear htop
    refine(nat_digits_top.calls _ _ n _ _ (Kd.C_below HA.out.2 (hgn ▸ HI.out.bel)) HA.out.1 hft).mono ?_
    rintro e w2 ⟨rfl,nd,rfl⟩
    replace HI:=am (HI.out.step (nat_below_drew W nd))
    generalize W.drewN nd = W at *
    clear hft
    have HGW:=am (HG.out.below (HB.out.trans (HI.out.bel.mono (by have:=HB.out.size;omega))))
    go_wp2_with (go_at_call 41;refine(X_FormatUint top (by omega) _ HGW.out).mono ?_;rintro e w3 ⟨rfl,hb3⟩)
    replace HI:=am (HI.out.step hb3)
    clear hb3 HGW
    have hlen0 : (Lib.byteCells []).length + (⟨(Lib.decDigits top).toArray⟩ : ByteArray).size≤140737488355328:=by
     have:=nat_dec9 top htop9
     show 0 + (Lib.decDigits top).toArray.size≤_
     rw [List.size_toArray]
     omega
    refine(X_WriteString (gn + 1) (gn + 1) _ _ _ HI.out.bld hlen0 HI.out.lt).mono ?_
    rintro e w4 ⟨rfl,hp4⟩
    replace HI:=am (HI.out.write hp4)
    clear hp4 hlen0
    have HS : Aside0 (([] ++ (⟨(Lib.decDigits top).toArray⟩ : ByteArray).data.toList) ++ nat_txtLow n (n.length - 1) = nat_txt n):=⟨by
     unfold nat_txt
     rw [← HTT.out]
     simp⟩
    generalize ([] ++ (⟨(Lib.decDigits top).toArray⟩ : ByteArray).data.toList) = l at *
    have hcell:=HI.out.cell
    go_wp2
    go_loopw [5] (fun v5 wr=>∃ (i : Int) (l : List UInt8),v5 = .int .i64 i∧-2≤i∧i < 1000000000000000∧Aside0 (i < n.length)∧Aside0 (nat_TI w1 wr gn A c n l)∧Aside0 (l ++ nat_txtLow n (i + 1).toNat = nat_txt n)) (fun v5 _=>(intOf v5 + 2).toNat)
    case atStart=>exact⟨_,l,rfl,by omega,by omega,⟨by omega⟩,HI,⟨by rw [show((n.length : Int) - 2 + 1).toNat = n.length - 1 from by omega];exact HS.out⟩⟩
    case round=>
     clear HS HI hcell
     obtain⟨i,l,rfl,hi0,hi1,hi2,HI,HS⟩:=hrel
     have hcell:=HI.out.cell
     by_cases hi : 0≤i
     ·have hi' : decide (0≤i) = true:=decide_eq_true hi
      obtain⟨j,rfl⟩ : ∃ j : Nat,i = j:=⟨i.toNat,by omega⟩
      have hj : j < n.length:=by have:=hi2.out;omega
      obtain⟨d,hd⟩ : ∃ u : Nat,(u : Int) = n.getD j 0:=⟨(n.getD j 0).toNat,by have:=nat_txt_at HD.out j;omega⟩
      have hd9 : d < 1000000000:=by have:=nat_txt_at HD.out j;omega
      have hfd : Aside0 (nat_digits_at.f n (j : Int) = some (d : Int)):=⟨nat_at_f n j d hj hd⟩
      have hds : (Lib.decDigits d).length≤9:=nat_dec9 d hd9
      have HP : Aside0 (Lib.repeatL [48] (9 - (Lib.decDigits d).length) ++ Lib.decDigits d = nat_txtPad (n.getD j 0)):=⟨by unfold nat_txtPad;rw [← hd];rfl⟩
      clear hd
      go_wp2_with fail
      refine(nat_digits_at.calls _ _ n _ _ _ (Kd.C_below HA.out.2 (hgn ▸ HI.out.bel)) HA.out.1 hfd.out).mono ?_
      rintro e w2 ⟨rfl,nd2,rfl⟩
      replace HI:=am (HI.out.step (nat_below_drew wr nd2))
      clear hcell hfd
      generalize wr.drewN nd2 = wa at *
      have HGW:=am (HG.out.below (HB.out.trans (HI.out.bel.mono (by have:=HB.out.size;omega))))
      go_wp2_with (go_at_call 41;refine(X_FormatUint d (by omega) _ HGW.out).mono ?_;rintro e wb ⟨rfl,hb3⟩)
      replace HI:=am (HI.out.step hb3)
      clear hb3 HGW
      rw [show(9 - ((Lib.decDigits d).length : Int)) = ((9 - (Lib.decDigits d).length : Nat) : Int) from by omega]
      refine(X_Repeat ⟨#[48]⟩ (9 - (Lib.decDigits d).length) _ (by omega) (by show 1 * _≤_;omega)).mono ?_
      rintro e wc ⟨rfl,hb4⟩
      replace HI:=am (HI.out.step hb4)
      clear hb4
      have hrl:=nat_rep_len (9 - (Lib.decDigits d).length)
      have HP2 : Aside0 (Lib.repeatL (⟨#[48]⟩ : ByteArray).data.toList (9 - (Lib.decDigits d).length) ++ Lib.decDigits d = nat_txtPad (n.getD j 0)):=⟨HP.out⟩
      have hrl2 : (Lib.repeatL (⟨#[48]⟩ : ByteArray).data.toList (9 - (Lib.decDigits d).length)).length≤9:=by show(Lib.repeatL [48] _).length≤9;omega
      clear HP hrl
      generalize Lib.repeatL (⟨#[48]⟩ : ByteArray).data.toList (9 - (Lib.decDigits d).length) = R at *
      generalize Lib.decDigits d = D at *
      go_wp2_with fail
      have hsl : Aside0 ((({ data:=R.toArray } : ByteArray) ++ ({ data:=D.toArray } : ByteArray)).data.toList = nat_txtPad (n.getD j 0)):=⟨by rw [← HP2.out];simp⟩
      have hlow : nat_txtLow n ((j : Int) + 1).toNat = nat_txtPad (n.getD j 0) ++ nat_txtLow n j:=by rw [show((j : Int) + 1).toNat = j + 1 from by omega];rfl
      have hlenW : (Lib.byteCells l).length + (({ data:=R.toArray } : ByteArray) ++ ({ data:=D.toArray } : ByteArray)).size≤140737488355328:=by
       have h1:=HT.out
       rw [← HS.out,hlow,← HP2.out] at h1
       simp only [List.length_append] at h1
       rw [Lib.byteCells_length]
       have h2 : (({ data:=R.toArray } : ByteArray) ++ ({ data:=D.toArray } : ByteArray)).size = R.length + D.length:=by
        show(({ data:=R.toArray } : ByteArray) ++ ({ data:=D.toArray } : ByteArray)).data.size = _
        simp
       omega
      refine(X_WriteString (gn + 1) (gn + 1) _ _ _ HI.out.bld hlenW HI.out.lt).mono ?_
      rintro e wd ⟨rfl,hp4⟩
      replace HI:=am (HI.out.write hp4)
      have HS2 : Aside0 ((l ++ (({ data:=R.toArray } : ByteArray) ++ ({ data:=D.toArray } : ByteArray)).data.toList) ++ nat_txtLow n ((j : Int) - 1 + 1).toNat = nat_txt n):=⟨by
       rw [hsl.out,show((j : Int) - 1 + 1).toNat = j from by omega,List.append_assoc,← hlow]
       exact HS.out⟩
      clear hp4 hlenW hlow hsl HP2 HS
      generalize l ++ (({ data:=R.toArray } : ByteArray) ++ ({ data:=D.toArray } : ByteArray)).data.toList = l2 at *
      go_wp2
      go_roundw
      case rel=>exact⟨(j : Int) - 1,l2,rfl,by omega,by omega,⟨by omega⟩,HI,HS2⟩
      case measure=>simp [intOf];omega
     ·have hi' : decide (0≤i) = false:=decide_eq_false hi
      go_wp2_with fail
      refine(X_String (gn + 1) (gn + 1) l _ HI.out.bld HI.out.lt).mono ?_
      rintro e w5 ⟨rfl,hb5⟩
      have hlt : l = nat_txt n:=by
       have h:=HS.out
       rw [show(i + 1).toNat = 0 from by omega] at h
       simpa [nat_txtLow] using h
      have hbel : Aside0 (Below w.heap.size w w5):=⟨HB.out.trans ((HI.out.bel.trans (hb5.mono (by omega))).mono (by have:=HB.out.size;omega))⟩
      subst hlt
      clear hb5 HI HS hcell
      go_wp2
      go_ret
      exact⟨rfl,hbel.out⟩
   ·rw [if_neg ht] at h
    exact absurd h (by simp)
  ·rw [if_neg hl] at h
   exact absurd h (by simp)
 ·rw [if_neg hd] at h
  exact absurd h (by simp)


/-! ### whetstonelaw01_awake: function 8 -/
def whetstonelaw01_awake.f (k : Nat)  : Option (Bool):=(nat_DivMod.f k (([0,1] : List Int)) (([7] : List Int))).bind fun bt276=>(if bt276.2.2 = true then((nat_Add.f k (([(([999999999] : List Int)),(([1] : List Int))] : List (List Int)))).bind fun t292=>((whetstonelaw01_same.f k t292 (([0,1] : List Int))).bind fun t298=>(if t298 = true then((whetstonelaw01_same.f k bt276.1 (([142857142] : List Int))).bind fun t302=>(if t302 = true then((whetstonelaw01_same.f k bt276.2.1 (([6] : List Int))).bind fun t306=>(if t306 = true then((nat_Text.f k (([5,1] : List Int))).bind fun t310=>(some (t310.toList == ([49,48,48,48,48,48,48,48,48,53] : List UInt8)))) else(some false))) else(some false))) else(some false)))) else(some false))
theorem whetstonelaw01_awake.calls (k : Nat)  (r : Bool) (w : World) (hG : GW w) (h : whetstonelaw01_awake.f k  = some r) :
  Calls Tryd.prog 8 #[] w fun e w'=>e = .returned (.bool r)∧Below w.heap.size w w':=by
 have HG:=am hG
 clear hG
 have HB:=am (Below.refl w.heap.size w)
 have H : ((nat_DivMod.f k (([0,1] : List Int)) (([7] : List Int))).bind fun bt276=>(if bt276.2.2 = true then((nat_Add.f k (([(([999999999] : List Int)),(([1] : List Int))] : List (List Int)))).bind fun t292=>((whetstonelaw01_same.f k t292 (([0,1] : List Int))).bind fun t298=>(if t298 = true then((whetstonelaw01_same.f k bt276.1 (([142857142] : List Int))).bind fun t302=>(if t302 = true then((whetstonelaw01_same.f k bt276.2.1 (([6] : List Int))).bind fun t306=>(if t306 = true then((nat_Text.f k (([5,1] : List Int))).bind fun t310=>(some (t310.toList == ([49,48,48,48,48,48,48,48,48,53] : List UInt8)))) else(some false))) else(some false))) else(some false)))) else(some false))) = some r:=h
 clear h
 obtain⟨y270,hy270⟩ : ∃ y_ : List Int,y_ = (([0,1] : List Int)):=⟨_,rfl⟩
 replace H : ((nat_DivMod.f k y270 (([7] : List Int))).bind fun bt276=>(if bt276.2.2 = true then((nat_Add.f k (([(([999999999] : List Int)),(([1] : List Int))] : List (List Int)))).bind fun t292=>((whetstonelaw01_same.f k t292 (([0,1] : List Int))).bind fun t298=>(if t298 = true then((whetstonelaw01_same.f k bt276.1 (([142857142] : List Int))).bind fun t302=>(if t302 = true then((whetstonelaw01_same.f k bt276.2.1 (([6] : List Int))).bind fun t306=>(if t306 = true then((nat_Text.f k (([5,1] : List Int))).bind fun t310=>(some (t310.toList == ([49,48,48,48,48,48,48,48,48,53] : List UInt8)))) else(some false))) else(some false))) else(some false)))) else(some false))) = some r:=by first |(rw [hy270];with_reducible exact H) |(have H2_:=(Option.bind_some _ _).symm.trans H;rw [hy270];with_reducible exact H2_) |(have H2_:=(Option.bind_some _ _).symm.trans H;with_reducible exact H2_) | with_reducible exact H |(rw [hy270];exact H) | exact H
 have Ny270:=am hy270
 clear hy270
 obtain⟨y273,hy273⟩ : ∃ y_ : List Int,y_ = (([7] : List Int)):=⟨_,rfl⟩
 replace H : ((nat_DivMod.f k y270 y273).bind fun bt276=>(if bt276.2.2 = true then((nat_Add.f k (([(([999999999] : List Int)),(([1] : List Int))] : List (List Int)))).bind fun t292=>((whetstonelaw01_same.f k t292 (([0,1] : List Int))).bind fun t298=>(if t298 = true then((whetstonelaw01_same.f k bt276.1 (([142857142] : List Int))).bind fun t302=>(if t302 = true then((whetstonelaw01_same.f k bt276.2.1 (([6] : List Int))).bind fun t306=>(if t306 = true then((nat_Text.f k (([5,1] : List Int))).bind fun t310=>(some (t310.toList == ([49,48,48,48,48,48,48,48,48,53] : List UInt8)))) else(some false))) else(some false))) else(some false)))) else(some false))) = some r:=by first |(rw [hy273];with_reducible exact H) |(have H2_:=(Option.bind_some _ _).symm.trans H;rw [hy273];with_reducible exact H2_) |(have H2_:=(Option.bind_some _ _).symm.trans H;with_reducible exact H2_) | with_reducible exact H |(rw [hy273];exact H) | exact H
 have Ny273:=am hy273
 clear hy273
 replace H:=Option.bind_eq_some_iff.mp H
 obtain⟨⟨t276,t279,t282⟩,A10,H⟩:=H
 try dsimp only at H
 have A1:=am A10
 clear A10
 by_cases c2 : t282 = true
 ·subst c2
  have H1 : ((nat_Add.f k (([(([999999999] : List Int)),(([1] : List Int))] : List (List Int)))).bind fun t292=>((whetstonelaw01_same.f k t292 (([0,1] : List Int))).bind fun t298=>(if t298 = true then((whetstonelaw01_same.f k t276 (([142857142] : List Int))).bind fun t302=>(if t302 = true then((whetstonelaw01_same.f k t279 (([6] : List Int))).bind fun t306=>(if t306 = true then((nat_Text.f k (([5,1] : List Int))).bind fun t310=>(some (t310.toList == ([49,48,48,48,48,48,48,48,48,53] : List UInt8)))) else(some false))) else(some false))) else(some false)))) = some r:=by rw [if_pos rfl] at H;exact H
  clear H
  have H:=H1
  clear H1
  obtain⟨y283,hy283⟩ : ∃ y_ : List Int,y_ = (([999999999] : List Int)):=⟨_,rfl⟩
  replace H : ((nat_Add.f k (([y283,(([1] : List Int))] : List (List Int)))).bind fun t292=>((whetstonelaw01_same.f k t292 (([0,1] : List Int))).bind fun t298=>(if t298 = true then((whetstonelaw01_same.f k t276 (([142857142] : List Int))).bind fun t302=>(if t302 = true then((whetstonelaw01_same.f k t279 (([6] : List Int))).bind fun t306=>(if t306 = true then((nat_Text.f k (([5,1] : List Int))).bind fun t310=>(some (t310.toList == ([49,48,48,48,48,48,48,48,48,53] : List UInt8)))) else(some false))) else(some false))) else(some false)))) = some r:=by first |(rw [hy283];with_reducible exact H) |(have H2_:=(Option.bind_some _ _).symm.trans H;rw [hy283];with_reducible exact H2_) |(have H2_:=(Option.bind_some _ _).symm.trans H;with_reducible exact H2_) | with_reducible exact H |(rw [hy283];exact H) | exact H
  have Ny283:=am hy283
  clear hy283
  obtain⟨y286,hy286⟩ : ∃ y_ : List Int,y_ = (([1] : List Int)):=⟨_,rfl⟩
  replace H : ((nat_Add.f k (([y283,y286] : List (List Int)))).bind fun t292=>((whetstonelaw01_same.f k t292 (([0,1] : List Int))).bind fun t298=>(if t298 = true then((whetstonelaw01_same.f k t276 (([142857142] : List Int))).bind fun t302=>(if t302 = true then((whetstonelaw01_same.f k t279 (([6] : List Int))).bind fun t306=>(if t306 = true then((nat_Text.f k (([5,1] : List Int))).bind fun t310=>(some (t310.toList == ([49,48,48,48,48,48,48,48,48,53] : List UInt8)))) else(some false))) else(some false))) else(some false)))) = some r:=by first |(rw [hy286];with_reducible exact H) |(have H2_:=(Option.bind_some _ _).symm.trans H;rw [hy286];with_reducible exact H2_) |(have H2_:=(Option.bind_some _ _).symm.trans H;with_reducible exact H2_) | with_reducible exact H |(rw [hy286];exact H) | exact H
  have Ny286:=am hy286
  clear hy286
  obtain⟨y289,hy289⟩ : ∃ y_ : List (List Int),y_ = (([y283,y286] : List (List Int))):=⟨_,rfl⟩
  replace H : ((nat_Add.f k y289).bind fun t292=>((whetstonelaw01_same.f k t292 (([0,1] : List Int))).bind fun t298=>(if t298 = true then((whetstonelaw01_same.f k t276 (([142857142] : List Int))).bind fun t302=>(if t302 = true then((whetstonelaw01_same.f k t279 (([6] : List Int))).bind fun t306=>(if t306 = true then((nat_Text.f k (([5,1] : List Int))).bind fun t310=>(some (t310.toList == ([49,48,48,48,48,48,48,48,48,53] : List UInt8)))) else(some false))) else(some false))) else(some false)))) = some r:=by first |(rw [hy289];with_reducible exact H) |(have H2_:=(Option.bind_some _ _).symm.trans H;rw [hy289];with_reducible exact H2_) |(have H2_:=(Option.bind_some _ _).symm.trans H;with_reducible exact H2_) | with_reducible exact H |(rw [hy289];exact H) | exact H
  have Ny289:=am hy289
  clear hy289
  replace H:=Option.bind_eq_some_iff.mp H
  obtain⟨t292,A30,H⟩:=H
  try dsimp only at H
  have A3:=am A30
  clear A30
  obtain⟨y295,hy295⟩ : ∃ y_ : List Int,y_ = (([0,1] : List Int)):=⟨_,rfl⟩
  replace H : ((whetstonelaw01_same.f k t292 y295).bind fun t298=>(if t298 = true then((whetstonelaw01_same.f k t276 (([142857142] : List Int))).bind fun t302=>(if t302 = true then((whetstonelaw01_same.f k t279 (([6] : List Int))).bind fun t306=>(if t306 = true then((nat_Text.f k (([5,1] : List Int))).bind fun t310=>(some (t310.toList == ([49,48,48,48,48,48,48,48,48,53] : List UInt8)))) else(some false))) else(some false))) else(some false))) = some r:=by first |(rw [hy295];with_reducible exact H) |(have H2_:=(Option.bind_some _ _).symm.trans H;rw [hy295];with_reducible exact H2_) |(have H2_:=(Option.bind_some _ _).symm.trans H;with_reducible exact H2_) | with_reducible exact H |(rw [hy295];exact H) | exact H
  have Ny295:=am hy295
  clear hy295
  replace H:=Option.bind_eq_some_iff.mp H
  obtain⟨t298,A40,H⟩:=H
  try dsimp only at H
  have A4:=am A40
  clear A40
  by_cases c5 : t298 = true
  ·subst c5
   have H1 : ((whetstonelaw01_same.f k t276 (([142857142] : List Int))).bind fun t302=>(if t302 = true then((whetstonelaw01_same.f k t279 (([6] : List Int))).bind fun t306=>(if t306 = true then((nat_Text.f k (([5,1] : List Int))).bind fun t310=>(some (t310.toList == ([49,48,48,48,48,48,48,48,48,53] : List UInt8)))) else(some false))) else(some false))) = some r:=by rw [if_pos rfl] at H;exact H
   clear H
   have H:=H1
   clear H1
   obtain⟨y299,hy299⟩ : ∃ y_ : List Int,y_ = (([142857142] : List Int)):=⟨_,rfl⟩
   replace H : ((whetstonelaw01_same.f k t276 y299).bind fun t302=>(if t302 = true then((whetstonelaw01_same.f k t279 (([6] : List Int))).bind fun t306=>(if t306 = true then((nat_Text.f k (([5,1] : List Int))).bind fun t310=>(some (t310.toList == ([49,48,48,48,48,48,48,48,48,53] : List UInt8)))) else(some false))) else(some false))) = some r:=by first |(rw [hy299];with_reducible exact H) |(have H2_:=(Option.bind_some _ _).symm.trans H;rw [hy299];with_reducible exact H2_) |(have H2_:=(Option.bind_some _ _).symm.trans H;with_reducible exact H2_) | with_reducible exact H |(rw [hy299];exact H) | exact H
   have Ny299:=am hy299
   clear hy299
   replace H:=Option.bind_eq_some_iff.mp H
   obtain⟨t302,A60,H⟩:=H
   try dsimp only at H
   have A6:=am A60
   clear A60
   by_cases c7 : t302 = true
   ·subst c7
    have H1 : ((whetstonelaw01_same.f k t279 (([6] : List Int))).bind fun t306=>(if t306 = true then((nat_Text.f k (([5,1] : List Int))).bind fun t310=>(some (t310.toList == ([49,48,48,48,48,48,48,48,48,53] : List UInt8)))) else(some false))) = some r:=by rw [if_pos rfl] at H;exact H
    clear H
    have H:=H1
    clear H1
    obtain⟨y303,hy303⟩ : ∃ y_ : List Int,y_ = (([6] : List Int)):=⟨_,rfl⟩
    replace H : ((whetstonelaw01_same.f k t279 y303).bind fun t306=>(if t306 = true then((nat_Text.f k (([5,1] : List Int))).bind fun t310=>(some (t310.toList == ([49,48,48,48,48,48,48,48,48,53] : List UInt8)))) else(some false))) = some r:=by first |(rw [hy303];with_reducible exact H) |(have H2_:=(Option.bind_some _ _).symm.trans H;rw [hy303];with_reducible exact H2_) |(have H2_:=(Option.bind_some _ _).symm.trans H;with_reducible exact H2_) | with_reducible exact H |(rw [hy303];exact H) | exact H
    have Ny303:=am hy303
    clear hy303
    replace H:=Option.bind_eq_some_iff.mp H
    obtain⟨t306,A80,H⟩:=H
    try dsimp only at H
    have A8:=am A80
    clear A80
    by_cases c9 : t306 = true
    ·subst c9
     have H1 : ((nat_Text.f k (([5,1] : List Int))).bind fun t310=>(some (t310.toList == ([49,48,48,48,48,48,48,48,48,53] : List UInt8)))) = some r:=by rw [if_pos rfl] at H;exact H
     clear H
     have H:=H1
     clear H1
     obtain⟨y307,hy307⟩ : ∃ y_ : List Int,y_ = (([5,1] : List Int)):=⟨_,rfl⟩
     replace H : ((nat_Text.f k y307).bind fun t310=>(some (t310.toList == ([49,48,48,48,48,48,48,48,48,53] : List UInt8)))) = some r:=by first |(rw [hy307];with_reducible exact H) |(have H2_:=(Option.bind_some _ _).symm.trans H;rw [hy307];with_reducible exact H2_) |(have H2_:=(Option.bind_some _ _).symm.trans H;with_reducible exact H2_) | with_reducible exact H |(rw [hy307];exact H) | exact H
     have Ny307:=am hy307
     clear hy307
     replace H:=Option.bind_eq_some_iff.mp H
     obtain⟨t310,A100,H⟩:=H
     try dsimp only at H
     have A10:=am A100
     clear A100
     obtain rfl:=Option.some.inj H
     go_enter Tryd.func8,Tryd.ntmps8
     go_wp2_with (first |((with_reducible refine gate_dst (N:=5) rfl ?_);(try (refine gate_guard (by rfl) ?_;dsimp only));refine Kd.R_lit (Kd.int .u32) _ 32 ?hg (N:=5) ?hd (xs:=([0,1] : List Int)) (inner:=[.int .u32 0,.int .u32 1]) (ok:=fun _=>True) (okp:=fun _=>True) ?hr ?hp (fun _ hk=>hk) trivial (Below.refl _ _) (Nat.le_refl _) (by simp) ?_;(case hd=>rfl);(case hg=>rfl);(case hr=>exact zh);(case hp=>exact(Reps.one (show Kd.M (Kd.int .u32) _ _ _ 0 [.int .u32 0] from rfl) (Reps.one (show Kd.M (Kd.int .u32) _ _ _ 1 [.int .u32 1] from rfl) (Reps.none _ _))));intro v271 w11 ho12 hb hg_ hnew_;clear hg_ hnew_;(first | rw [← Ny270.out] at ho12 |(simp only [Int.reduceToNat] at ho12;rw [← Ny270.out] at ho12));have HO272:=am (Kd.R_lower ho12 (below_size zb));replace HB:=am (below_step zb hb);clear hb ho12) |((with_reducible refine gate_dst (N:=6) rfl ?_);(try (refine gate_guard (by rfl) ?_;dsimp only));refine Kd.R_lit (Kd.int .u32) _ 32 ?hg (N:=6) ?hd (xs:=([7] : List Int)) (inner:=[.int .u32 7]) (ok:=fun _=>True) (okp:=fun _=>True) ?hr ?hp (fun _ hk=>hk) trivial (Below.refl _ _) (Nat.le_refl _) (by simp) ?_;(case hd=>rfl);(case hg=>rfl);(case hr=>exact zh);(case hp=>exact(Reps.one (show Kd.M (Kd.int .u32) _ _ _ 7 [.int .u32 7] from rfl) (Reps.none _ _)));intro v274 w13 ho14 hb hg_ hnew_;clear hg_ hnew_;(first | rw [← Ny273.out] at ho14 |(simp only [Int.reduceToNat] at ho14;rw [← Ny273.out] at ho14));have HO275:=am (Kd.R_lower (Kd.R_new' ho14 (Kd.R_lt (zR HO272.out))) (below_size zb));replace HO272:=re HO272 (Kd.R_base ho14) hb;replace HB:=am (below_step zb hb);clear hb ho14;obtain⟨Ao15,co15,eo15⟩:=Kd.R_slice HO272.out;subst eo15;obtain⟨Ao16,co16,eo16⟩:=Kd.R_slice HO275.out;subst eo16) |((with_reducible refine gate_callee (f:=18) rfl ?_);refine goesL_ (some 7) rfl rfl Tryd.func18 (by kernel_rfl) rfl #[.slice Ao15 y270.length co15,.slice Ao16 y273.length co16] rfl zl ?_;(with_reducible refine(nat_DivMod.calls k _ _ y270 _ _ y273 t276 t279 true _ ?side1 ?side2 ?side3 ?side4 A1.out).mono ?_);(case side1=>exact zC (Kd.R_reads' HO272.out).2.2);(case side2=>exact(Kd.R_reads' HO272.out).2.1);(case side3=>exact zC (Kd.R_reads' HO275.out).2.2);(case side4=>exact(Kd.R_reads' HO275.out).2.1);rintro e w17 ⟨v277,v280,rfl,ho0,ho1,hb⟩;refine⟨_,rfl,?_⟩;have HO278:=am (Kd.V_lower (Kd.V_mono (ok':=fun k_=>some k_≠(.slice Ao15 y270.length co15 : Value).ownBlock∧some k_≠(.slice Ao16 y273.length co16 : Value).ownBlock) ho0 (fun k_ hk_=>⟨(Kd.fresh' (Kd.R_lt (zR HO272.out)) k_ hk_),(Kd.fresh' (Kd.R_lt (zR HO275.out)) k_ hk_)⟩)) (below_size zb));have HO281:=am (Kd.V_lower (Kd.V_mono (ok':=fun k_=>some k_≠(.slice Ao15 y270.length co15 : Value).ownBlock∧some k_≠(.slice Ao16 y273.length co16 : Value).ownBlock) ho1 (fun k_ hk_=>⟨(Kd.fresh' (Kd.R_lt (zR HO272.out)) k_ hk_),(Kd.fresh' (Kd.R_lt (zR HO275.out)) k_ hk_)⟩)) (below_size zb));replace HO272:=rb HO272 hb;replace HO275:=rb HO275 hb;replace HB:=am (below_step zb hb);(try clear hb);(try clear ho0);(try clear ho1)) |((with_reducible refine gate_dst (N:=13) rfl ?_);(try (refine gate_guard (by rfl) ?_;dsimp only));refine Kd.R_lit (Kd.int .u32) _ 32 ?hg (N:=13) ?hd (xs:=([999999999] : List Int)) (inner:=[.int .u32 999999999]) (ok:=fun _=>True) (okp:=fun _=>True) ?hr ?hp (fun _ hk=>hk) trivial (Below.refl _ _) (Nat.le_refl _) (by simp) ?_;(case hd=>rfl);(case hg=>rfl);(case hr=>exact zh);(case hp=>exact(Reps.one (show Kd.M (Kd.int .u32) _ _ _ 999999999 [.int .u32 999999999] from rfl) (Reps.none _ _)));intro v284 w18 ho19 hb hg_ hnew_;clear hg_ hnew_;(first | rw [← Ny283.out] at ho19 |(simp only [Int.reduceToNat] at ho19;rw [← Ny283.out] at ho19));replace HO278:=ve HO278 (Kd.R_base ho19) hb;replace HO281:=ve HO281 (Kd.R_base ho19) hb;have HO285:=am (Kd.R_lower (Kd.R_new' (Kd.R_new' ho19 (Kd.R_lt (zR HO272.out))) (Kd.R_lt (zR HO275.out))) (below_size zb));replace HO272:=re HO272 (Kd.R_base ho19) hb;replace HO275:=re HO275 (Kd.R_base ho19) hb;replace HB:=am (below_step zb hb);clear hb ho19) |((with_reducible refine gate_dst (N:=14) rfl ?_);(try (refine gate_guard (by rfl) ?_;dsimp only));refine Kd.R_lit (Kd.int .u32) _ 32 ?hg (N:=14) ?hd (xs:=([1] : List Int)) (inner:=[.int .u32 1]) (ok:=fun _=>True) (okp:=fun _=>True) ?hr ?hp (fun _ hk=>hk) trivial (Below.refl _ _) (Nat.le_refl _) (by simp) ?_;(case hd=>rfl);(case hg=>rfl);(case hr=>exact zh);(case hp=>exact(Reps.one (show Kd.M (Kd.int .u32) _ _ _ 1 [.int .u32 1] from rfl) (Reps.none _ _)));intro v287 w20 ho21 hb hg_ hnew_;clear hg_ hnew_;(first | rw [← Ny286.out] at ho21 |(simp only [Int.reduceToNat] at ho21;rw [← Ny286.out] at ho21));replace HO278:=ve HO278 (Kd.R_base ho21) hb;replace HO281:=ve HO281 (Kd.R_base ho21) hb;have HO288:=am (Kd.R_lower (Kd.R_new' (Kd.R_new' (Kd.R_new' ho21 (Kd.R_lt (zR HO272.out))) (Kd.R_lt (zR HO275.out))) (Kd.R_lt (zR HO285.out))) (below_size zb));replace HO272:=re HO272 (Kd.R_base ho21) hb;replace HO275:=re HO275 (Kd.R_base ho21) hb;replace HO285:=re HO285 (Kd.R_base ho21) hb;replace HB:=am (below_step zb hb);clear hb ho21;obtain⟨Ao22,co22,eo22⟩:=Kd.R_slice HO285.out;subst eo22;obtain⟨Ao23,co23,eo23⟩:=Kd.R_slice HO288.out;subst eo23) |((with_reducible refine gate_dst (N:=15) rfl ?_);(try (refine gate_guard (by rfl) ?_;dsimp only));refine Kd.N_lit (Kd.slice 32 (Kd.int .u32)) _ 26 ?hg (N':=15) ?hd (xs:=([y283,y286] : List (List Int))) (inner:=[.slice Ao22 y283.length co22,.slice Ao23 y286.length co23]) (ok:=(fun k_=>some k_≠(.slice Ao15 y270.length co15 : Value).ownBlock∧some k_≠(.slice Ao16 y273.length co16 : Value).ownBlock)) (okp:=(fun k_=>some k_≠(.slice Ao15 y270.length co15 : Value).ownBlock∧some k_≠(.slice Ao16 y273.length co16 : Value).ownBlock)) ?hr ?hp (fun _ hk=>hk) ((show ∀ k_,w20.heap.size≤k_→(fun k_=>some k_≠(.slice Ao15 y270.length co15 : Value).ownBlock∧some k_≠(.slice Ao16 y273.length co16 : Value).ownBlock) k_ from fun k_ hk=>⟨Kd.fresh' (Kd.R_lt (zR HO272.out)) k_ hk,Kd.fresh' (Kd.R_lt (zR HO275.out)) k_ hk⟩) _ (Nat.le_refl _)) (Below.refl _ _) (Nat.le_refl _) (by simp) ?_;(case hd=>rfl);(case hg=>rfl);(case hr=>exact zh);(case hp=>exact(Reps.one (show Kd.FK (Kd.slice 32 (Kd.int .u32)) _ _ y283 [.slice Ao22 y283.length co22] from(Kd.FK_slice_mk (Kd.R_reads' (Kd.R_mono (ok':=(fun k_=>some k_≠(.slice Ao15 y270.length co15 : Value).ownBlock∧some k_≠(.slice Ao16 y273.length co16 : Value).ownBlock)) (HO285.out) (fun k_ hk=>⟨hk.1.1.2,hk.1.2⟩))).2.1 (Kd.R_F (Kd.R_mono (ok':=(fun k_=>some k_≠(.slice Ao15 y270.length co15 : Value).ownBlock∧some k_≠(.slice Ao16 y273.length co16 : Value).ownBlock)) (HO285.out) (fun k_ hk=>⟨hk.1.1.2,hk.1.2⟩))))) (Reps.one (show Kd.FK (Kd.slice 32 (Kd.int .u32)) _ _ y286 [.slice Ao23 y286.length co23] from(Kd.FK_slice_mk (Kd.R_reads' (Kd.R_mono (ok':=(fun k_=>some k_≠(.slice Ao15 y270.length co15 : Value).ownBlock∧some k_≠(.slice Ao16 y273.length co16 : Value).ownBlock)) (HO288.out) (fun k_ hk=>⟨hk.1.1.2,hk.1.2⟩))).2.1 (Kd.R_F (Kd.R_mono (ok':=(fun k_=>some k_≠(.slice Ao15 y270.length co15 : Value).ownBlock∧some k_≠(.slice Ao16 y273.length co16 : Value).ownBlock)) (HO288.out) (fun k_ hk=>⟨hk.1.1.2,hk.1.2⟩))))) (Reps.none _ _))));intro v290 w24 ho25 hb hg_ hnew_;clear hg_ hnew_;(first | rw [← Ny289.out] at ho25 |(simp only [Int.reduceToNat] at ho25;rw [← Ny289.out] at ho25));replace HO272:=rb HO272 hb;replace HO275:=rb HO275 hb;replace HO278:=ve HO278 (Kd.N_base ho25) hb;replace HO281:=ve HO281 (Kd.N_base ho25) hb;have HO291:=am (Kd.N_lower ho25 (below_size zb));replace HB:=am (below_step zb hb);clear HO285;clear HO288;clear hb ho25;obtain⟨Ao26,co26,eo26⟩:=Kd.N_slice HO291.out;subst eo26) |(go_at_call 11;(with_reducible refine(nat_Add.calls k _ _ y289 t292 _ ?side1 ?side2 A3.out).mono ?_);(case side1=>exact zC (Kd.N_reads' HO291.out).2.2);(case side2=>exact(Kd.N_reads' HO291.out).2.1);rintro e w27 ⟨v293,rfl,ho0,hb⟩;replace HO278:=vb HO278 hb;replace HO281:=vb HO281 hb;have HO294:=am (Kd.V_lower (Kd.V_mono (ok':=fun k_=>some k_≠(.slice Ao15 y270.length co15 : Value).ownBlock∧some k_≠(.slice Ao16 y273.length co16 : Value).ownBlock∧some k_≠(.slice Ao26 y289.length co26 : Value).ownBlock) ho0 (fun k_ hk_=>⟨(Kd.fresh' (Kd.R_lt (zR HO272.out)) k_ hk_),(Kd.fresh' (Kd.R_lt (zR HO275.out)) k_ hk_),(Kd.fresh' (Kd.N_lt (zN HO291.out)) k_ hk_)⟩)) (below_size zb));replace HO272:=rb HO272 hb;replace HO275:=rb HO275 hb;replace HO291:=nb HO291 hb;replace HB:=am (below_step zb hb);(try clear hb);(try clear ho0)) |((with_reducible refine gate_dst (N:=17) rfl ?_);(try (refine gate_guard (by rfl) ?_;dsimp only));refine Kd.R_lit (Kd.int .u32) _ 32 ?hg (N:=17) ?hd (xs:=([0,1] : List Int)) (inner:=[.int .u32 0,.int .u32 1]) (ok:=fun _=>True) (okp:=fun _=>True) ?hr ?hp (fun _ hk=>hk) trivial (Below.refl _ _) (Nat.le_refl _) (by simp) ?_;(case hd=>rfl);(case hg=>rfl);(case hr=>exact zh);(case hp=>exact(Reps.one (show Kd.M (Kd.int .u32) _ _ _ 0 [.int .u32 0] from rfl) (Reps.one (show Kd.M (Kd.int .u32) _ _ _ 1 [.int .u32 1] from rfl) (Reps.none _ _))));intro v296 w28 ho29 hb hg_ hnew_;clear hg_ hnew_;(first | rw [← Ny295.out] at ho29 |(simp only [Int.reduceToNat] at ho29;rw [← Ny295.out] at ho29));replace HO278:=ve HO278 (Kd.R_base ho29) hb;replace HO281:=ve HO281 (Kd.R_base ho29) hb;replace HO291:=am (Kd.N_elder' (zN HO291.out) (Kd.R_base ho29) hb);replace HO294:=ve HO294 (Kd.R_base ho29) hb;have HO297:=am (Kd.R_lower (Kd.R_new' (Kd.R_new' ho29 (Kd.R_lt (zR HO272.out))) (Kd.R_lt (zR HO275.out))) (below_size zb));replace HO272:=re HO272 (Kd.R_base ho29) hb;replace HO275:=re HO275 (Kd.R_base ho29) hb;replace HB:=am (below_step zb hb);clear hb ho29;obtain⟨Ao30,co30,eo30⟩:=Kd.V_slice HO294.out;subst eo30;obtain⟨Ao31,co31,eo31⟩:=Kd.R_slice HO297.out;subst eo31) |(go_at_call 10;(with_reducible refine(whetstonelaw01_same.calls k _ _ t292 _ _ y295 true _ ?side1 ?side2 ?side3 ?side4 A4.out).mono ?_);(case side1=>exact zC (Kd.V_reads' HO294.out).2.2);(case side2=>exact(Kd.V_reads' HO294.out).2.1);(case side3=>exact zC (Kd.R_reads' HO297.out).2.2);(case side4=>exact(Kd.R_reads' HO297.out).2.1);rintro e w' ⟨rfl,⟨nd,rfl⟩⟩) |((with_reducible refine gate_dst (N:=22) rfl ?_);(try (refine gate_guard (by rfl) ?_;dsimp only));refine Kd.R_lit (Kd.int .u32) _ 32 ?hg (N:=22) ?hd (xs:=([142857142] : List Int)) (inner:=[.int .u32 142857142]) (ok:=fun _=>True) (okp:=fun _=>True) ?hr ?hp (fun _ hk=>hk) trivial (Below.refl _ _) (Nat.le_refl _) (by simp) ?_;(case hd=>rfl);(case hg=>rfl);(case hr=>exact zh);(case hp=>exact(Reps.one (show Kd.M (Kd.int .u32) _ _ _ 142857142 [.int .u32 142857142] from rfl) (Reps.none _ _)));intro v300 w32 ho33 hb hg_ hnew_;clear hg_ hnew_;(first | rw [← Ny299.out] at ho33 |(simp only [Int.reduceToNat] at ho33;rw [← Ny299.out] at ho33));replace HO278:=ve HO278 (Kd.R_base ho33) hb;replace HO281:=ve HO281 (Kd.R_base ho33) hb;replace HO291:=am (Kd.N_elder' (zN HO291.out) (Kd.R_base ho33) hb);replace HO294:=ve HO294 (Kd.R_base ho33) hb;have HO301:=am (Kd.R_lower (Kd.R_new' (Kd.R_new' (Kd.R_new' ho33 (Kd.R_lt (zR HO272.out))) (Kd.R_lt (zR HO275.out))) (Kd.R_lt (zR HO297.out))) (below_size zb));replace HO272:=re HO272 (Kd.R_base ho33) hb;replace HO275:=re HO275 (Kd.R_base ho33) hb;replace HO297:=re HO297 (Kd.R_base ho33) hb;replace HB:=am (below_step zb hb);clear hb ho33;obtain⟨Ao34,co34,eo34⟩:=Kd.V_slice HO278.out;subst eo34;obtain⟨Ao35,co35,eo35⟩:=Kd.R_slice HO301.out;subst eo35) |(go_at_call 10;(with_reducible refine(whetstonelaw01_same.calls k _ _ t276 _ _ y299 true _ ?side1 ?side2 ?side3 ?side4 A6.out).mono ?_);(case side1=>exact zC (Kd.V_reads' HO278.out).2.2);(case side2=>exact(Kd.V_reads' HO278.out).2.1);(case side3=>exact zC (Kd.R_reads' HO301.out).2.2);(case side4=>exact(Kd.R_reads' HO301.out).2.1);rintro e w' ⟨rfl,⟨nd,rfl⟩⟩) |((with_reducible refine gate_dst (N:=27) rfl ?_);(try (refine gate_guard (by rfl) ?_;dsimp only));refine Kd.R_lit (Kd.int .u32) _ 32 ?hg (N:=27) ?hd (xs:=([6] : List Int)) (inner:=[.int .u32 6]) (ok:=fun _=>True) (okp:=fun _=>True) ?hr ?hp (fun _ hk=>hk) trivial (Below.refl _ _) (Nat.le_refl _) (by simp) ?_;(case hd=>rfl);(case hg=>rfl);(case hr=>exact zh);(case hp=>exact(Reps.one (show Kd.M (Kd.int .u32) _ _ _ 6 [.int .u32 6] from rfl) (Reps.none _ _)));intro v304 w36 ho37 hb hg_ hnew_;clear hg_ hnew_;(first | rw [← Ny303.out] at ho37 |(simp only [Int.reduceToNat] at ho37;rw [← Ny303.out] at ho37));replace HO278:=ve HO278 (Kd.R_base ho37) hb;replace HO281:=ve HO281 (Kd.R_base ho37) hb;replace HO291:=am (Kd.N_elder' (zN HO291.out) (Kd.R_base ho37) hb);replace HO294:=ve HO294 (Kd.R_base ho37) hb;have HO305:=am (Kd.R_lower (Kd.R_new' (Kd.R_new' (Kd.R_new' (Kd.R_new' ho37 (Kd.R_lt (zR HO272.out))) (Kd.R_lt (zR HO275.out))) (Kd.R_lt (zR HO297.out))) (Kd.R_lt (zR HO301.out))) (below_size zb));replace HO272:=re HO272 (Kd.R_base ho37) hb;replace HO275:=re HO275 (Kd.R_base ho37) hb;replace HO297:=re HO297 (Kd.R_base ho37) hb;replace HO301:=re HO301 (Kd.R_base ho37) hb;replace HB:=am (below_step zb hb);clear hb ho37;obtain⟨Ao38,co38,eo38⟩:=Kd.V_slice HO281.out;subst eo38;obtain⟨Ao39,co39,eo39⟩:=Kd.R_slice HO305.out;subst eo39) |(go_at_call 10;(with_reducible refine(whetstonelaw01_same.calls k _ _ t279 _ _ y303 true _ ?side1 ?side2 ?side3 ?side4 A8.out).mono ?_);(case side1=>exact zC (Kd.V_reads' HO281.out).2.2);(case side2=>exact(Kd.V_reads' HO281.out).2.1);(case side3=>exact zC (Kd.R_reads' HO305.out).2.2);(case side4=>exact(Kd.R_reads' HO305.out).2.1);rintro e w' ⟨rfl,⟨nd,rfl⟩⟩) |((with_reducible refine gate_dst (N:=31) rfl ?_);(try (refine gate_guard (by rfl) ?_;dsimp only));refine Kd.R_lit (Kd.int .u32) _ 32 ?hg (N:=31) ?hd (xs:=([5,1] : List Int)) (inner:=[.int .u32 5,.int .u32 1]) (ok:=fun _=>True) (okp:=fun _=>True) ?hr ?hp (fun _ hk=>hk) trivial (Below.refl _ _) (Nat.le_refl _) (by simp) ?_;(case hd=>rfl);(case hg=>rfl);(case hr=>exact zh);(case hp=>exact(Reps.one (show Kd.M (Kd.int .u32) _ _ _ 5 [.int .u32 5] from rfl) (Reps.one (show Kd.M (Kd.int .u32) _ _ _ 1 [.int .u32 1] from rfl) (Reps.none _ _))));intro v308 w40 ho41 hb hg_ hnew_;clear hg_ hnew_;(first | rw [← Ny307.out] at ho41 |(simp only [Int.reduceToNat] at ho41;rw [← Ny307.out] at ho41));replace HO278:=ve HO278 (Kd.R_base ho41) hb;replace HO281:=ve HO281 (Kd.R_base ho41) hb;replace HO291:=am (Kd.N_elder' (zN HO291.out) (Kd.R_base ho41) hb);replace HO294:=ve HO294 (Kd.R_base ho41) hb;have HO309:=am (Kd.R_lower (Kd.R_new' (Kd.R_new' (Kd.R_new' (Kd.R_new' (Kd.R_new' ho41 (Kd.R_lt (zR HO272.out))) (Kd.R_lt (zR HO275.out))) (Kd.R_lt (zR HO297.out))) (Kd.R_lt (zR HO301.out))) (Kd.R_lt (zR HO305.out))) (below_size zb));replace HO272:=re HO272 (Kd.R_base ho41) hb;replace HO275:=re HO275 (Kd.R_base ho41) hb;replace HO297:=re HO297 (Kd.R_base ho41) hb;replace HO301:=re HO301 (Kd.R_base ho41) hb;replace HO305:=re HO305 (Kd.R_base ho41) hb;replace HB:=am (below_step zb hb);clear hb ho41;obtain⟨Ao42,co42,eo42⟩:=Kd.R_slice HO309.out;subst eo42) |(go_at_call 22;(with_reducible refine(nat_Text.calls k _ _ y307 t310 _ ?side1 ?side2 ?side3 A10.out).mono ?_);(case side1=>exact zC (Kd.R_reads' HO309.out).2.2);(case side2=>exact(Kd.R_reads' HO309.out).2.1);(case side3=>exact GW.below HG.out zb);rintro e w43 ⟨rfl,hb⟩;replace HO272:=rb HO272 hb;replace HO275:=rb HO275 hb;replace HO278:=vb HO278 hb;replace HO281:=vb HO281 hb;replace HO291:=nb HO291 hb;replace HO294:=vb HO294 hb;replace HO297:=rb HO297 hb;replace HO301:=rb HO301 hb;replace HO305:=rb HO305 hb;replace HO309:=rb HO309 hb;replace HB:=am (below_step zb hb);(try clear hb);skip))
     go_ret
     exact⟨zf,zb⟩
    ·replace c9:=Bool.eq_false_iff.mpr c9
     subst c9
     have H1 : (some false) = some r:=by rw [if_neg (show ¬ (false = true) by decide)] at H;exact H
     clear H
     have H:=H1
     clear H1
     obtain rfl:=Option.some.inj H
     go_enter Tryd.func8,Tryd.ntmps8
     go_wp2_with (first |((with_reducible refine gate_dst (N:=5) rfl ?_);(try (refine gate_guard (by rfl) ?_;dsimp only));refine Kd.R_lit (Kd.int .u32) _ 32 ?hg (N:=5) ?hd (xs:=([0,1] : List Int)) (inner:=[.int .u32 0,.int .u32 1]) (ok:=fun _=>True) (okp:=fun _=>True) ?hr ?hp (fun _ hk=>hk) trivial (Below.refl _ _) (Nat.le_refl _) (by simp) ?_;(case hd=>rfl);(case hg=>rfl);(case hr=>exact zh);(case hp=>exact(Reps.one (show Kd.M (Kd.int .u32) _ _ _ 0 [.int .u32 0] from rfl) (Reps.one (show Kd.M (Kd.int .u32) _ _ _ 1 [.int .u32 1] from rfl) (Reps.none _ _))));intro v271 w44 ho45 hb hg_ hnew_;clear hg_ hnew_;(first | rw [← Ny270.out] at ho45 |(simp only [Int.reduceToNat] at ho45;rw [← Ny270.out] at ho45));have HO272:=am (Kd.R_lower ho45 (below_size zb));replace HB:=am (below_step zb hb);clear hb ho45) |((with_reducible refine gate_dst (N:=6) rfl ?_);(try (refine gate_guard (by rfl) ?_;dsimp only));refine Kd.R_lit (Kd.int .u32) _ 32 ?hg (N:=6) ?hd (xs:=([7] : List Int)) (inner:=[.int .u32 7]) (ok:=fun _=>True) (okp:=fun _=>True) ?hr ?hp (fun _ hk=>hk) trivial (Below.refl _ _) (Nat.le_refl _) (by simp) ?_;(case hd=>rfl);(case hg=>rfl);(case hr=>exact zh);(case hp=>exact(Reps.one (show Kd.M (Kd.int .u32) _ _ _ 7 [.int .u32 7] from rfl) (Reps.none _ _)));intro v274 w46 ho47 hb hg_ hnew_;clear hg_ hnew_;(first | rw [← Ny273.out] at ho47 |(simp only [Int.reduceToNat] at ho47;rw [← Ny273.out] at ho47));have HO275:=am (Kd.R_lower (Kd.R_new' ho47 (Kd.R_lt (zR HO272.out))) (below_size zb));replace HO272:=re HO272 (Kd.R_base ho47) hb;replace HB:=am (below_step zb hb);clear hb ho47;obtain⟨Ao48,co48,eo48⟩:=Kd.R_slice HO272.out;subst eo48;obtain⟨Ao49,co49,eo49⟩:=Kd.R_slice HO275.out;subst eo49) |((with_reducible refine gate_callee (f:=18) rfl ?_);refine goesL_ (some 7) rfl rfl Tryd.func18 (by kernel_rfl) rfl #[.slice Ao48 y270.length co48,.slice Ao49 y273.length co49] rfl zl ?_;(with_reducible refine(nat_DivMod.calls k _ _ y270 _ _ y273 t276 t279 true _ ?side1 ?side2 ?side3 ?side4 A1.out).mono ?_);(case side1=>exact zC (Kd.R_reads' HO272.out).2.2);(case side2=>exact(Kd.R_reads' HO272.out).2.1);(case side3=>exact zC (Kd.R_reads' HO275.out).2.2);(case side4=>exact(Kd.R_reads' HO275.out).2.1);rintro e w50 ⟨v277,v280,rfl,ho0,ho1,hb⟩;refine⟨_,rfl,?_⟩;have HO278:=am (Kd.V_lower (Kd.V_mono (ok':=fun k_=>some k_≠(.slice Ao48 y270.length co48 : Value).ownBlock∧some k_≠(.slice Ao49 y273.length co49 : Value).ownBlock) ho0 (fun k_ hk_=>⟨(Kd.fresh' (Kd.R_lt (zR HO272.out)) k_ hk_),(Kd.fresh' (Kd.R_lt (zR HO275.out)) k_ hk_)⟩)) (below_size zb));have HO281:=am (Kd.V_lower (Kd.V_mono (ok':=fun k_=>some k_≠(.slice Ao48 y270.length co48 : Value).ownBlock∧some k_≠(.slice Ao49 y273.length co49 : Value).ownBlock) ho1 (fun k_ hk_=>⟨(Kd.fresh' (Kd.R_lt (zR HO272.out)) k_ hk_),(Kd.fresh' (Kd.R_lt (zR HO275.out)) k_ hk_)⟩)) (below_size zb));replace HO272:=rb HO272 hb;replace HO275:=rb HO275 hb;replace HB:=am (below_step zb hb);(try clear hb);(try clear ho0);(try clear ho1)) |((with_reducible refine gate_dst (N:=13) rfl ?_);(try (refine gate_guard (by rfl) ?_;dsimp only));refine Kd.R_lit (Kd.int .u32) _ 32 ?hg (N:=13) ?hd (xs:=([999999999] : List Int)) (inner:=[.int .u32 999999999]) (ok:=fun _=>True) (okp:=fun _=>True) ?hr ?hp (fun _ hk=>hk) trivial (Below.refl _ _) (Nat.le_refl _) (by simp) ?_;(case hd=>rfl);(case hg=>rfl);(case hr=>exact zh);(case hp=>exact(Reps.one (show Kd.M (Kd.int .u32) _ _ _ 999999999 [.int .u32 999999999] from rfl) (Reps.none _ _)));intro v284 w51 ho52 hb hg_ hnew_;clear hg_ hnew_;(first | rw [← Ny283.out] at ho52 |(simp only [Int.reduceToNat] at ho52;rw [← Ny283.out] at ho52));replace HO278:=ve HO278 (Kd.R_base ho52) hb;replace HO281:=ve HO281 (Kd.R_base ho52) hb;have HO285:=am (Kd.R_lower (Kd.R_new' (Kd.R_new' ho52 (Kd.R_lt (zR HO272.out))) (Kd.R_lt (zR HO275.out))) (below_size zb));replace HO272:=re HO272 (Kd.R_base ho52) hb;replace HO275:=re HO275 (Kd.R_base ho52) hb;replace HB:=am (below_step zb hb);clear hb ho52) |((with_reducible refine gate_dst (N:=14) rfl ?_);(try (refine gate_guard (by rfl) ?_;dsimp only));refine Kd.R_lit (Kd.int .u32) _ 32 ?hg (N:=14) ?hd (xs:=([1] : List Int)) (inner:=[.int .u32 1]) (ok:=fun _=>True) (okp:=fun _=>True) ?hr ?hp (fun _ hk=>hk) trivial (Below.refl _ _) (Nat.le_refl _) (by simp) ?_;(case hd=>rfl);(case hg=>rfl);(case hr=>exact zh);(case hp=>exact(Reps.one (show Kd.M (Kd.int .u32) _ _ _ 1 [.int .u32 1] from rfl) (Reps.none _ _)));intro v287 w53 ho54 hb hg_ hnew_;clear hg_ hnew_;(first | rw [← Ny286.out] at ho54 |(simp only [Int.reduceToNat] at ho54;rw [← Ny286.out] at ho54));replace HO278:=ve HO278 (Kd.R_base ho54) hb;replace HO281:=ve HO281 (Kd.R_base ho54) hb;have HO288:=am (Kd.R_lower (Kd.R_new' (Kd.R_new' (Kd.R_new' ho54 (Kd.R_lt (zR HO272.out))) (Kd.R_lt (zR HO275.out))) (Kd.R_lt (zR HO285.out))) (below_size zb));replace HO272:=re HO272 (Kd.R_base ho54) hb;replace HO275:=re HO275 (Kd.R_base ho54) hb;replace HO285:=re HO285 (Kd.R_base ho54) hb;replace HB:=am (below_step zb hb);clear hb ho54;obtain⟨Ao55,co55,eo55⟩:=Kd.R_slice HO285.out;subst eo55;obtain⟨Ao56,co56,eo56⟩:=Kd.R_slice HO288.out;subst eo56) |((with_reducible refine gate_dst (N:=15) rfl ?_);(try (refine gate_guard (by rfl) ?_;dsimp only));refine Kd.N_lit (Kd.slice 32 (Kd.int .u32)) _ 26 ?hg (N':=15) ?hd (xs:=([y283,y286] : List (List Int))) (inner:=[.slice Ao55 y283.length co55,.slice Ao56 y286.length co56]) (ok:=(fun k_=>some k_≠(.slice Ao48 y270.length co48 : Value).ownBlock∧some k_≠(.slice Ao49 y273.length co49 : Value).ownBlock)) (okp:=(fun k_=>some k_≠(.slice Ao48 y270.length co48 : Value).ownBlock∧some k_≠(.slice Ao49 y273.length co49 : Value).ownBlock)) ?hr ?hp (fun _ hk=>hk) ((show ∀ k_,w53.heap.size≤k_→(fun k_=>some k_≠(.slice Ao48 y270.length co48 : Value).ownBlock∧some k_≠(.slice Ao49 y273.length co49 : Value).ownBlock) k_ from fun k_ hk=>⟨Kd.fresh' (Kd.R_lt (zR HO272.out)) k_ hk,Kd.fresh' (Kd.R_lt (zR HO275.out)) k_ hk⟩) _ (Nat.le_refl _)) (Below.refl _ _) (Nat.le_refl _) (by simp) ?_;(case hd=>rfl);(case hg=>rfl);(case hr=>exact zh);(case hp=>exact(Reps.one (show Kd.FK (Kd.slice 32 (Kd.int .u32)) _ _ y283 [.slice Ao55 y283.length co55] from(Kd.FK_slice_mk (Kd.R_reads' (Kd.R_mono (ok':=(fun k_=>some k_≠(.slice Ao48 y270.length co48 : Value).ownBlock∧some k_≠(.slice Ao49 y273.length co49 : Value).ownBlock)) (HO285.out) (fun k_ hk=>⟨hk.1.1.2,hk.1.2⟩))).2.1 (Kd.R_F (Kd.R_mono (ok':=(fun k_=>some k_≠(.slice Ao48 y270.length co48 : Value).ownBlock∧some k_≠(.slice Ao49 y273.length co49 : Value).ownBlock)) (HO285.out) (fun k_ hk=>⟨hk.1.1.2,hk.1.2⟩))))) (Reps.one (show Kd.FK (Kd.slice 32 (Kd.int .u32)) _ _ y286 [.slice Ao56 y286.length co56] from(Kd.FK_slice_mk (Kd.R_reads' (Kd.R_mono (ok':=(fun k_=>some k_≠(.slice Ao48 y270.length co48 : Value).ownBlock∧some k_≠(.slice Ao49 y273.length co49 : Value).ownBlock)) (HO288.out) (fun k_ hk=>⟨hk.1.1.2,hk.1.2⟩))).2.1 (Kd.R_F (Kd.R_mono (ok':=(fun k_=>some k_≠(.slice Ao48 y270.length co48 : Value).ownBlock∧some k_≠(.slice Ao49 y273.length co49 : Value).ownBlock)) (HO288.out) (fun k_ hk=>⟨hk.1.1.2,hk.1.2⟩))))) (Reps.none _ _))));intro v290 w57 ho58 hb hg_ hnew_;clear hg_ hnew_;(first | rw [← Ny289.out] at ho58 |(simp only [Int.reduceToNat] at ho58;rw [← Ny289.out] at ho58));replace HO272:=rb HO272 hb;replace HO275:=rb HO275 hb;replace HO278:=ve HO278 (Kd.N_base ho58) hb;replace HO281:=ve HO281 (Kd.N_base ho58) hb;have HO291:=am (Kd.N_lower ho58 (below_size zb));replace HB:=am (below_step zb hb);clear HO285;clear HO288;clear hb ho58;obtain⟨Ao59,co59,eo59⟩:=Kd.N_slice HO291.out;subst eo59) |(go_at_call 11;(with_reducible refine(nat_Add.calls k _ _ y289 t292 _ ?side1 ?side2 A3.out).mono ?_);(case side1=>exact zC (Kd.N_reads' HO291.out).2.2);(case side2=>exact(Kd.N_reads' HO291.out).2.1);rintro e w60 ⟨v293,rfl,ho0,hb⟩;replace HO278:=vb HO278 hb;replace HO281:=vb HO281 hb;have HO294:=am (Kd.V_lower (Kd.V_mono (ok':=fun k_=>some k_≠(.slice Ao48 y270.length co48 : Value).ownBlock∧some k_≠(.slice Ao49 y273.length co49 : Value).ownBlock∧some k_≠(.slice Ao59 y289.length co59 : Value).ownBlock) ho0 (fun k_ hk_=>⟨(Kd.fresh' (Kd.R_lt (zR HO272.out)) k_ hk_),(Kd.fresh' (Kd.R_lt (zR HO275.out)) k_ hk_),(Kd.fresh' (Kd.N_lt (zN HO291.out)) k_ hk_)⟩)) (below_size zb));replace HO272:=rb HO272 hb;replace HO275:=rb HO275 hb;replace HO291:=nb HO291 hb;replace HB:=am (below_step zb hb);(try clear hb);(try clear ho0)) |((with_reducible refine gate_dst (N:=17) rfl ?_);(try (refine gate_guard (by rfl) ?_;dsimp only));refine Kd.R_lit (Kd.int .u32) _ 32 ?hg (N:=17) ?hd (xs:=([0,1] : List Int)) (inner:=[.int .u32 0,.int .u32 1]) (ok:=fun _=>True) (okp:=fun _=>True) ?hr ?hp (fun _ hk=>hk) trivial (Below.refl _ _) (Nat.le_refl _) (by simp) ?_;(case hd=>rfl);(case hg=>rfl);(case hr=>exact zh);(case hp=>exact(Reps.one (show Kd.M (Kd.int .u32) _ _ _ 0 [.int .u32 0] from rfl) (Reps.one (show Kd.M (Kd.int .u32) _ _ _ 1 [.int .u32 1] from rfl) (Reps.none _ _))));intro v296 w61 ho62 hb hg_ hnew_;clear hg_ hnew_;(first | rw [← Ny295.out] at ho62 |(simp only [Int.reduceToNat] at ho62;rw [← Ny295.out] at ho62));replace HO278:=ve HO278 (Kd.R_base ho62) hb;replace HO281:=ve HO281 (Kd.R_base ho62) hb;replace HO291:=am (Kd.N_elder' (zN HO291.out) (Kd.R_base ho62) hb);replace HO294:=ve HO294 (Kd.R_base ho62) hb;have HO297:=am (Kd.R_lower (Kd.R_new' (Kd.R_new' ho62 (Kd.R_lt (zR HO272.out))) (Kd.R_lt (zR HO275.out))) (below_size zb));replace HO272:=re HO272 (Kd.R_base ho62) hb;replace HO275:=re HO275 (Kd.R_base ho62) hb;replace HB:=am (below_step zb hb);clear hb ho62;obtain⟨Ao63,co63,eo63⟩:=Kd.V_slice HO294.out;subst eo63;obtain⟨Ao64,co64,eo64⟩:=Kd.R_slice HO297.out;subst eo64) |(go_at_call 10;(with_reducible refine(whetstonelaw01_same.calls k _ _ t292 _ _ y295 true _ ?side1 ?side2 ?side3 ?side4 A4.out).mono ?_);(case side1=>exact zC (Kd.V_reads' HO294.out).2.2);(case side2=>exact(Kd.V_reads' HO294.out).2.1);(case side3=>exact zC (Kd.R_reads' HO297.out).2.2);(case side4=>exact(Kd.R_reads' HO297.out).2.1);rintro e w' ⟨rfl,⟨nd,rfl⟩⟩) |((with_reducible refine gate_dst (N:=22) rfl ?_);(try (refine gate_guard (by rfl) ?_;dsimp only));refine Kd.R_lit (Kd.int .u32) _ 32 ?hg (N:=22) ?hd (xs:=([142857142] : List Int)) (inner:=[.int .u32 142857142]) (ok:=fun _=>True) (okp:=fun _=>True) ?hr ?hp (fun _ hk=>hk) trivial (Below.refl _ _) (Nat.le_refl _) (by simp) ?_;(case hd=>rfl);(case hg=>rfl);(case hr=>exact zh);(case hp=>exact(Reps.one (show Kd.M (Kd.int .u32) _ _ _ 142857142 [.int .u32 142857142] from rfl) (Reps.none _ _)));intro v300 w65 ho66 hb hg_ hnew_;clear hg_ hnew_;(first | rw [← Ny299.out] at ho66 |(simp only [Int.reduceToNat] at ho66;rw [← Ny299.out] at ho66));replace HO278:=ve HO278 (Kd.R_base ho66) hb;replace HO281:=ve HO281 (Kd.R_base ho66) hb;replace HO291:=am (Kd.N_elder' (zN HO291.out) (Kd.R_base ho66) hb);replace HO294:=ve HO294 (Kd.R_base ho66) hb;have HO301:=am (Kd.R_lower (Kd.R_new' (Kd.R_new' (Kd.R_new' ho66 (Kd.R_lt (zR HO272.out))) (Kd.R_lt (zR HO275.out))) (Kd.R_lt (zR HO297.out))) (below_size zb));replace HO272:=re HO272 (Kd.R_base ho66) hb;replace HO275:=re HO275 (Kd.R_base ho66) hb;replace HO297:=re HO297 (Kd.R_base ho66) hb;replace HB:=am (below_step zb hb);clear hb ho66;obtain⟨Ao67,co67,eo67⟩:=Kd.V_slice HO278.out;subst eo67;obtain⟨Ao68,co68,eo68⟩:=Kd.R_slice HO301.out;subst eo68) |(go_at_call 10;(with_reducible refine(whetstonelaw01_same.calls k _ _ t276 _ _ y299 true _ ?side1 ?side2 ?side3 ?side4 A6.out).mono ?_);(case side1=>exact zC (Kd.V_reads' HO278.out).2.2);(case side2=>exact(Kd.V_reads' HO278.out).2.1);(case side3=>exact zC (Kd.R_reads' HO301.out).2.2);(case side4=>exact(Kd.R_reads' HO301.out).2.1);rintro e w' ⟨rfl,⟨nd,rfl⟩⟩) |((with_reducible refine gate_dst (N:=27) rfl ?_);(try (refine gate_guard (by rfl) ?_;dsimp only));refine Kd.R_lit (Kd.int .u32) _ 32 ?hg (N:=27) ?hd (xs:=([6] : List Int)) (inner:=[.int .u32 6]) (ok:=fun _=>True) (okp:=fun _=>True) ?hr ?hp (fun _ hk=>hk) trivial (Below.refl _ _) (Nat.le_refl _) (by simp) ?_;(case hd=>rfl);(case hg=>rfl);(case hr=>exact zh);(case hp=>exact(Reps.one (show Kd.M (Kd.int .u32) _ _ _ 6 [.int .u32 6] from rfl) (Reps.none _ _)));intro v304 w69 ho70 hb hg_ hnew_;clear hg_ hnew_;(first | rw [← Ny303.out] at ho70 |(simp only [Int.reduceToNat] at ho70;rw [← Ny303.out] at ho70));replace HO278:=ve HO278 (Kd.R_base ho70) hb;replace HO281:=ve HO281 (Kd.R_base ho70) hb;replace HO291:=am (Kd.N_elder' (zN HO291.out) (Kd.R_base ho70) hb);replace HO294:=ve HO294 (Kd.R_base ho70) hb;have HO305:=am (Kd.R_lower (Kd.R_new' (Kd.R_new' (Kd.R_new' (Kd.R_new' ho70 (Kd.R_lt (zR HO272.out))) (Kd.R_lt (zR HO275.out))) (Kd.R_lt (zR HO297.out))) (Kd.R_lt (zR HO301.out))) (below_size zb));replace HO272:=re HO272 (Kd.R_base ho70) hb;replace HO275:=re HO275 (Kd.R_base ho70) hb;replace HO297:=re HO297 (Kd.R_base ho70) hb;replace HO301:=re HO301 (Kd.R_base ho70) hb;replace HB:=am (below_step zb hb);clear hb ho70;obtain⟨Ao71,co71,eo71⟩:=Kd.V_slice HO281.out;subst eo71;obtain⟨Ao72,co72,eo72⟩:=Kd.R_slice HO305.out;subst eo72) |(go_at_call 10;(with_reducible refine(whetstonelaw01_same.calls k _ _ t279 _ _ y303 false _ ?side1 ?side2 ?side3 ?side4 A8.out).mono ?_);(case side1=>exact zC (Kd.V_reads' HO281.out).2.2);(case side2=>exact(Kd.V_reads' HO281.out).2.1);(case side3=>exact zC (Kd.R_reads' HO305.out).2.2);(case side4=>exact(Kd.R_reads' HO305.out).2.1);rintro e w' ⟨rfl,⟨nd,rfl⟩⟩))
     go_ret
     exact⟨zf,zb⟩
   ·replace c7:=Bool.eq_false_iff.mpr c7
    subst c7
    have H1 : (some false) = some r:=by rw [if_neg (show ¬ (false = true) by decide)] at H;exact H
    clear H
    have H:=H1
    clear H1
    obtain rfl:=Option.some.inj H
    go_enter Tryd.func8,Tryd.ntmps8
    go_wp2_with (first |((with_reducible refine gate_dst (N:=5) rfl ?_);(try (refine gate_guard (by rfl) ?_;dsimp only));refine Kd.R_lit (Kd.int .u32) _ 32 ?hg (N:=5) ?hd (xs:=([0,1] : List Int)) (inner:=[.int .u32 0,.int .u32 1]) (ok:=fun _=>True) (okp:=fun _=>True) ?hr ?hp (fun _ hk=>hk) trivial (Below.refl _ _) (Nat.le_refl _) (by simp) ?_;(case hd=>rfl);(case hg=>rfl);(case hr=>exact zh);(case hp=>exact(Reps.one (show Kd.M (Kd.int .u32) _ _ _ 0 [.int .u32 0] from rfl) (Reps.one (show Kd.M (Kd.int .u32) _ _ _ 1 [.int .u32 1] from rfl) (Reps.none _ _))));intro v271 w73 ho74 hb hg_ hnew_;clear hg_ hnew_;(first | rw [← Ny270.out] at ho74 |(simp only [Int.reduceToNat] at ho74;rw [← Ny270.out] at ho74));have HO272:=am (Kd.R_lower ho74 (below_size zb));replace HB:=am (below_step zb hb);clear hb ho74) |((with_reducible refine gate_dst (N:=6) rfl ?_);(try (refine gate_guard (by rfl) ?_;dsimp only));refine Kd.R_lit (Kd.int .u32) _ 32 ?hg (N:=6) ?hd (xs:=([7] : List Int)) (inner:=[.int .u32 7]) (ok:=fun _=>True) (okp:=fun _=>True) ?hr ?hp (fun _ hk=>hk) trivial (Below.refl _ _) (Nat.le_refl _) (by simp) ?_;(case hd=>rfl);(case hg=>rfl);(case hr=>exact zh);(case hp=>exact(Reps.one (show Kd.M (Kd.int .u32) _ _ _ 7 [.int .u32 7] from rfl) (Reps.none _ _)));intro v274 w75 ho76 hb hg_ hnew_;clear hg_ hnew_;(first | rw [← Ny273.out] at ho76 |(simp only [Int.reduceToNat] at ho76;rw [← Ny273.out] at ho76));have HO275:=am (Kd.R_lower (Kd.R_new' ho76 (Kd.R_lt (zR HO272.out))) (below_size zb));replace HO272:=re HO272 (Kd.R_base ho76) hb;replace HB:=am (below_step zb hb);clear hb ho76;obtain⟨Ao77,co77,eo77⟩:=Kd.R_slice HO272.out;subst eo77;obtain⟨Ao78,co78,eo78⟩:=Kd.R_slice HO275.out;subst eo78) |((with_reducible refine gate_callee (f:=18) rfl ?_);refine goesL_ (some 7) rfl rfl Tryd.func18 (by kernel_rfl) rfl #[.slice Ao77 y270.length co77,.slice Ao78 y273.length co78] rfl zl ?_;(with_reducible refine(nat_DivMod.calls k _ _ y270 _ _ y273 t276 t279 true _ ?side1 ?side2 ?side3 ?side4 A1.out).mono ?_);(case side1=>exact zC (Kd.R_reads' HO272.out).2.2);(case side2=>exact(Kd.R_reads' HO272.out).2.1);(case side3=>exact zC (Kd.R_reads' HO275.out).2.2);(case side4=>exact(Kd.R_reads' HO275.out).2.1);rintro e w79 ⟨v277,v280,rfl,ho0,ho1,hb⟩;refine⟨_,rfl,?_⟩;have HO278:=am (Kd.V_lower (Kd.V_mono (ok':=fun k_=>some k_≠(.slice Ao77 y270.length co77 : Value).ownBlock∧some k_≠(.slice Ao78 y273.length co78 : Value).ownBlock) ho0 (fun k_ hk_=>⟨(Kd.fresh' (Kd.R_lt (zR HO272.out)) k_ hk_),(Kd.fresh' (Kd.R_lt (zR HO275.out)) k_ hk_)⟩)) (below_size zb));have HO281:=am (Kd.V_lower (Kd.V_mono (ok':=fun k_=>some k_≠(.slice Ao77 y270.length co77 : Value).ownBlock∧some k_≠(.slice Ao78 y273.length co78 : Value).ownBlock) ho1 (fun k_ hk_=>⟨(Kd.fresh' (Kd.R_lt (zR HO272.out)) k_ hk_),(Kd.fresh' (Kd.R_lt (zR HO275.out)) k_ hk_)⟩)) (below_size zb));replace HO272:=rb HO272 hb;replace HO275:=rb HO275 hb;replace HB:=am (below_step zb hb);(try clear hb);(try clear ho0);(try clear ho1)) |((with_reducible refine gate_dst (N:=13) rfl ?_);(try (refine gate_guard (by rfl) ?_;dsimp only));refine Kd.R_lit (Kd.int .u32) _ 32 ?hg (N:=13) ?hd (xs:=([999999999] : List Int)) (inner:=[.int .u32 999999999]) (ok:=fun _=>True) (okp:=fun _=>True) ?hr ?hp (fun _ hk=>hk) trivial (Below.refl _ _) (Nat.le_refl _) (by simp) ?_;(case hd=>rfl);(case hg=>rfl);(case hr=>exact zh);(case hp=>exact(Reps.one (show Kd.M (Kd.int .u32) _ _ _ 999999999 [.int .u32 999999999] from rfl) (Reps.none _ _)));intro v284 w80 ho81 hb hg_ hnew_;clear hg_ hnew_;(first | rw [← Ny283.out] at ho81 |(simp only [Int.reduceToNat] at ho81;rw [← Ny283.out] at ho81));replace HO278:=ve HO278 (Kd.R_base ho81) hb;replace HO281:=ve HO281 (Kd.R_base ho81) hb;have HO285:=am (Kd.R_lower (Kd.R_new' (Kd.R_new' ho81 (Kd.R_lt (zR HO272.out))) (Kd.R_lt (zR HO275.out))) (below_size zb));replace HO272:=re HO272 (Kd.R_base ho81) hb;replace HO275:=re HO275 (Kd.R_base ho81) hb;replace HB:=am (below_step zb hb);clear hb ho81) |((with_reducible refine gate_dst (N:=14) rfl ?_);(try (refine gate_guard (by rfl) ?_;dsimp only));refine Kd.R_lit (Kd.int .u32) _ 32 ?hg (N:=14) ?hd (xs:=([1] : List Int)) (inner:=[.int .u32 1]) (ok:=fun _=>True) (okp:=fun _=>True) ?hr ?hp (fun _ hk=>hk) trivial (Below.refl _ _) (Nat.le_refl _) (by simp) ?_;(case hd=>rfl);(case hg=>rfl);(case hr=>exact zh);(case hp=>exact(Reps.one (show Kd.M (Kd.int .u32) _ _ _ 1 [.int .u32 1] from rfl) (Reps.none _ _)));intro v287 w82 ho83 hb hg_ hnew_;clear hg_ hnew_;(first | rw [← Ny286.out] at ho83 |(simp only [Int.reduceToNat] at ho83;rw [← Ny286.out] at ho83));replace HO278:=ve HO278 (Kd.R_base ho83) hb;replace HO281:=ve HO281 (Kd.R_base ho83) hb;have HO288:=am (Kd.R_lower (Kd.R_new' (Kd.R_new' (Kd.R_new' ho83 (Kd.R_lt (zR HO272.out))) (Kd.R_lt (zR HO275.out))) (Kd.R_lt (zR HO285.out))) (below_size zb));replace HO272:=re HO272 (Kd.R_base ho83) hb;replace HO275:=re HO275 (Kd.R_base ho83) hb;replace HO285:=re HO285 (Kd.R_base ho83) hb;replace HB:=am (below_step zb hb);clear hb ho83;obtain⟨Ao84,co84,eo84⟩:=Kd.R_slice HO285.out;subst eo84;obtain⟨Ao85,co85,eo85⟩:=Kd.R_slice HO288.out;subst eo85) |((with_reducible refine gate_dst (N:=15) rfl ?_);(try (refine gate_guard (by rfl) ?_;dsimp only));refine Kd.N_lit (Kd.slice 32 (Kd.int .u32)) _ 26 ?hg (N':=15) ?hd (xs:=([y283,y286] : List (List Int))) (inner:=[.slice Ao84 y283.length co84,.slice Ao85 y286.length co85]) (ok:=(fun k_=>some k_≠(.slice Ao77 y270.length co77 : Value).ownBlock∧some k_≠(.slice Ao78 y273.length co78 : Value).ownBlock)) (okp:=(fun k_=>some k_≠(.slice Ao77 y270.length co77 : Value).ownBlock∧some k_≠(.slice Ao78 y273.length co78 : Value).ownBlock)) ?hr ?hp (fun _ hk=>hk) ((show ∀ k_,w82.heap.size≤k_→(fun k_=>some k_≠(.slice Ao77 y270.length co77 : Value).ownBlock∧some k_≠(.slice Ao78 y273.length co78 : Value).ownBlock) k_ from fun k_ hk=>⟨Kd.fresh' (Kd.R_lt (zR HO272.out)) k_ hk,Kd.fresh' (Kd.R_lt (zR HO275.out)) k_ hk⟩) _ (Nat.le_refl _)) (Below.refl _ _) (Nat.le_refl _) (by simp) ?_;(case hd=>rfl);(case hg=>rfl);(case hr=>exact zh);(case hp=>exact(Reps.one (show Kd.FK (Kd.slice 32 (Kd.int .u32)) _ _ y283 [.slice Ao84 y283.length co84] from(Kd.FK_slice_mk (Kd.R_reads' (Kd.R_mono (ok':=(fun k_=>some k_≠(.slice Ao77 y270.length co77 : Value).ownBlock∧some k_≠(.slice Ao78 y273.length co78 : Value).ownBlock)) (HO285.out) (fun k_ hk=>⟨hk.1.1.2,hk.1.2⟩))).2.1 (Kd.R_F (Kd.R_mono (ok':=(fun k_=>some k_≠(.slice Ao77 y270.length co77 : Value).ownBlock∧some k_≠(.slice Ao78 y273.length co78 : Value).ownBlock)) (HO285.out) (fun k_ hk=>⟨hk.1.1.2,hk.1.2⟩))))) (Reps.one (show Kd.FK (Kd.slice 32 (Kd.int .u32)) _ _ y286 [.slice Ao85 y286.length co85] from(Kd.FK_slice_mk (Kd.R_reads' (Kd.R_mono (ok':=(fun k_=>some k_≠(.slice Ao77 y270.length co77 : Value).ownBlock∧some k_≠(.slice Ao78 y273.length co78 : Value).ownBlock)) (HO288.out) (fun k_ hk=>⟨hk.1.1.2,hk.1.2⟩))).2.1 (Kd.R_F (Kd.R_mono (ok':=(fun k_=>some k_≠(.slice Ao77 y270.length co77 : Value).ownBlock∧some k_≠(.slice Ao78 y273.length co78 : Value).ownBlock)) (HO288.out) (fun k_ hk=>⟨hk.1.1.2,hk.1.2⟩))))) (Reps.none _ _))));intro v290 w86 ho87 hb hg_ hnew_;clear hg_ hnew_;(first | rw [← Ny289.out] at ho87 |(simp only [Int.reduceToNat] at ho87;rw [← Ny289.out] at ho87));replace HO272:=rb HO272 hb;replace HO275:=rb HO275 hb;replace HO278:=ve HO278 (Kd.N_base ho87) hb;replace HO281:=ve HO281 (Kd.N_base ho87) hb;have HO291:=am (Kd.N_lower ho87 (below_size zb));replace HB:=am (below_step zb hb);clear HO285;clear HO288;clear hb ho87;obtain⟨Ao88,co88,eo88⟩:=Kd.N_slice HO291.out;subst eo88) |(go_at_call 11;(with_reducible refine(nat_Add.calls k _ _ y289 t292 _ ?side1 ?side2 A3.out).mono ?_);(case side1=>exact zC (Kd.N_reads' HO291.out).2.2);(case side2=>exact(Kd.N_reads' HO291.out).2.1);rintro e w89 ⟨v293,rfl,ho0,hb⟩;replace HO278:=vb HO278 hb;replace HO281:=vb HO281 hb;have HO294:=am (Kd.V_lower (Kd.V_mono (ok':=fun k_=>some k_≠(.slice Ao77 y270.length co77 : Value).ownBlock∧some k_≠(.slice Ao78 y273.length co78 : Value).ownBlock∧some k_≠(.slice Ao88 y289.length co88 : Value).ownBlock) ho0 (fun k_ hk_=>⟨(Kd.fresh' (Kd.R_lt (zR HO272.out)) k_ hk_),(Kd.fresh' (Kd.R_lt (zR HO275.out)) k_ hk_),(Kd.fresh' (Kd.N_lt (zN HO291.out)) k_ hk_)⟩)) (below_size zb));replace HO272:=rb HO272 hb;replace HO275:=rb HO275 hb;replace HO291:=nb HO291 hb;replace HB:=am (below_step zb hb);(try clear hb);(try clear ho0)) |((with_reducible refine gate_dst (N:=17) rfl ?_);(try (refine gate_guard (by rfl) ?_;dsimp only));refine Kd.R_lit (Kd.int .u32) _ 32 ?hg (N:=17) ?hd (xs:=([0,1] : List Int)) (inner:=[.int .u32 0,.int .u32 1]) (ok:=fun _=>True) (okp:=fun _=>True) ?hr ?hp (fun _ hk=>hk) trivial (Below.refl _ _) (Nat.le_refl _) (by simp) ?_;(case hd=>rfl);(case hg=>rfl);(case hr=>exact zh);(case hp=>exact(Reps.one (show Kd.M (Kd.int .u32) _ _ _ 0 [.int .u32 0] from rfl) (Reps.one (show Kd.M (Kd.int .u32) _ _ _ 1 [.int .u32 1] from rfl) (Reps.none _ _))));intro v296 w90 ho91 hb hg_ hnew_;clear hg_ hnew_;(first | rw [← Ny295.out] at ho91 |(simp only [Int.reduceToNat] at ho91;rw [← Ny295.out] at ho91));replace HO278:=ve HO278 (Kd.R_base ho91) hb;replace HO281:=ve HO281 (Kd.R_base ho91) hb;replace HO291:=am (Kd.N_elder' (zN HO291.out) (Kd.R_base ho91) hb);replace HO294:=ve HO294 (Kd.R_base ho91) hb;have HO297:=am (Kd.R_lower (Kd.R_new' (Kd.R_new' ho91 (Kd.R_lt (zR HO272.out))) (Kd.R_lt (zR HO275.out))) (below_size zb));replace HO272:=re HO272 (Kd.R_base ho91) hb;replace HO275:=re HO275 (Kd.R_base ho91) hb;replace HB:=am (below_step zb hb);clear hb ho91;obtain⟨Ao92,co92,eo92⟩:=Kd.V_slice HO294.out;subst eo92;obtain⟨Ao93,co93,eo93⟩:=Kd.R_slice HO297.out;subst eo93) |(go_at_call 10;(with_reducible refine(whetstonelaw01_same.calls k _ _ t292 _ _ y295 true _ ?side1 ?side2 ?side3 ?side4 A4.out).mono ?_);(case side1=>exact zC (Kd.V_reads' HO294.out).2.2);(case side2=>exact(Kd.V_reads' HO294.out).2.1);(case side3=>exact zC (Kd.R_reads' HO297.out).2.2);(case side4=>exact(Kd.R_reads' HO297.out).2.1);rintro e w' ⟨rfl,⟨nd,rfl⟩⟩) |((with_reducible refine gate_dst (N:=22) rfl ?_);(try (refine gate_guard (by rfl) ?_;dsimp only));refine Kd.R_lit (Kd.int .u32) _ 32 ?hg (N:=22) ?hd (xs:=([142857142] : List Int)) (inner:=[.int .u32 142857142]) (ok:=fun _=>True) (okp:=fun _=>True) ?hr ?hp (fun _ hk=>hk) trivial (Below.refl _ _) (Nat.le_refl _) (by simp) ?_;(case hd=>rfl);(case hg=>rfl);(case hr=>exact zh);(case hp=>exact(Reps.one (show Kd.M (Kd.int .u32) _ _ _ 142857142 [.int .u32 142857142] from rfl) (Reps.none _ _)));intro v300 w94 ho95 hb hg_ hnew_;clear hg_ hnew_;(first | rw [← Ny299.out] at ho95 |(simp only [Int.reduceToNat] at ho95;rw [← Ny299.out] at ho95));replace HO278:=ve HO278 (Kd.R_base ho95) hb;replace HO281:=ve HO281 (Kd.R_base ho95) hb;replace HO291:=am (Kd.N_elder' (zN HO291.out) (Kd.R_base ho95) hb);replace HO294:=ve HO294 (Kd.R_base ho95) hb;have HO301:=am (Kd.R_lower (Kd.R_new' (Kd.R_new' (Kd.R_new' ho95 (Kd.R_lt (zR HO272.out))) (Kd.R_lt (zR HO275.out))) (Kd.R_lt (zR HO297.out))) (below_size zb));replace HO272:=re HO272 (Kd.R_base ho95) hb;replace HO275:=re HO275 (Kd.R_base ho95) hb;replace HO297:=re HO297 (Kd.R_base ho95) hb;replace HB:=am (below_step zb hb);clear hb ho95;obtain⟨Ao96,co96,eo96⟩:=Kd.V_slice HO278.out;subst eo96;obtain⟨Ao97,co97,eo97⟩:=Kd.R_slice HO301.out;subst eo97) |(go_at_call 10;(with_reducible refine(whetstonelaw01_same.calls k _ _ t276 _ _ y299 false _ ?side1 ?side2 ?side3 ?side4 A6.out).mono ?_);(case side1=>exact zC (Kd.V_reads' HO278.out).2.2);(case side2=>exact(Kd.V_reads' HO278.out).2.1);(case side3=>exact zC (Kd.R_reads' HO301.out).2.2);(case side4=>exact(Kd.R_reads' HO301.out).2.1);rintro e w' ⟨rfl,⟨nd,rfl⟩⟩))
    go_ret
    exact⟨zf,zb⟩
  ·replace c5:=Bool.eq_false_iff.mpr c5
   subst c5
   have H1 : (some false) = some r:=by rw [if_neg (show ¬ (false = true) by decide)] at H;exact H
   clear H
   have H:=H1
   clear H1
   obtain rfl:=Option.some.inj H
   go_enter Tryd.func8,Tryd.ntmps8
   go_wp2_with (first |((with_reducible refine gate_dst (N:=5) rfl ?_);(try (refine gate_guard (by rfl) ?_;dsimp only));refine Kd.R_lit (Kd.int .u32) _ 32 ?hg (N:=5) ?hd (xs:=([0,1] : List Int)) (inner:=[.int .u32 0,.int .u32 1]) (ok:=fun _=>True) (okp:=fun _=>True) ?hr ?hp (fun _ hk=>hk) trivial (Below.refl _ _) (Nat.le_refl _) (by simp) ?_;(case hd=>rfl);(case hg=>rfl);(case hr=>exact zh);(case hp=>exact(Reps.one (show Kd.M (Kd.int .u32) _ _ _ 0 [.int .u32 0] from rfl) (Reps.one (show Kd.M (Kd.int .u32) _ _ _ 1 [.int .u32 1] from rfl) (Reps.none _ _))));intro v271 w98 ho99 hb hg_ hnew_;clear hg_ hnew_;(first | rw [← Ny270.out] at ho99 |(simp only [Int.reduceToNat] at ho99;rw [← Ny270.out] at ho99));have HO272:=am (Kd.R_lower ho99 (below_size zb));replace HB:=am (below_step zb hb);clear hb ho99) |((with_reducible refine gate_dst (N:=6) rfl ?_);(try (refine gate_guard (by rfl) ?_;dsimp only));refine Kd.R_lit (Kd.int .u32) _ 32 ?hg (N:=6) ?hd (xs:=([7] : List Int)) (inner:=[.int .u32 7]) (ok:=fun _=>True) (okp:=fun _=>True) ?hr ?hp (fun _ hk=>hk) trivial (Below.refl _ _) (Nat.le_refl _) (by simp) ?_;(case hd=>rfl);(case hg=>rfl);(case hr=>exact zh);(case hp=>exact(Reps.one (show Kd.M (Kd.int .u32) _ _ _ 7 [.int .u32 7] from rfl) (Reps.none _ _)));intro v274 w100 ho101 hb hg_ hnew_;clear hg_ hnew_;(first | rw [← Ny273.out] at ho101 |(simp only [Int.reduceToNat] at ho101;rw [← Ny273.out] at ho101));have HO275:=am (Kd.R_lower (Kd.R_new' ho101 (Kd.R_lt (zR HO272.out))) (below_size zb));replace HO272:=re HO272 (Kd.R_base ho101) hb;replace HB:=am (below_step zb hb);clear hb ho101;obtain⟨Ao102,co102,eo102⟩:=Kd.R_slice HO272.out;subst eo102;obtain⟨Ao103,co103,eo103⟩:=Kd.R_slice HO275.out;subst eo103) |((with_reducible refine gate_callee (f:=18) rfl ?_);refine goesL_ (some 7) rfl rfl Tryd.func18 (by kernel_rfl) rfl #[.slice Ao102 y270.length co102,.slice Ao103 y273.length co103] rfl zl ?_;(with_reducible refine(nat_DivMod.calls k _ _ y270 _ _ y273 t276 t279 true _ ?side1 ?side2 ?side3 ?side4 A1.out).mono ?_);(case side1=>exact zC (Kd.R_reads' HO272.out).2.2);(case side2=>exact(Kd.R_reads' HO272.out).2.1);(case side3=>exact zC (Kd.R_reads' HO275.out).2.2);(case side4=>exact(Kd.R_reads' HO275.out).2.1);rintro e w104 ⟨v277,v280,rfl,ho0,ho1,hb⟩;refine⟨_,rfl,?_⟩;have HO278:=am (Kd.V_lower (Kd.V_mono (ok':=fun k_=>some k_≠(.slice Ao102 y270.length co102 : Value).ownBlock∧some k_≠(.slice Ao103 y273.length co103 : Value).ownBlock) ho0 (fun k_ hk_=>⟨(Kd.fresh' (Kd.R_lt (zR HO272.out)) k_ hk_),(Kd.fresh' (Kd.R_lt (zR HO275.out)) k_ hk_)⟩)) (below_size zb));have HO281:=am (Kd.V_lower (Kd.V_mono (ok':=fun k_=>some k_≠(.slice Ao102 y270.length co102 : Value).ownBlock∧some k_≠(.slice Ao103 y273.length co103 : Value).ownBlock) ho1 (fun k_ hk_=>⟨(Kd.fresh' (Kd.R_lt (zR HO272.out)) k_ hk_),(Kd.fresh' (Kd.R_lt (zR HO275.out)) k_ hk_)⟩)) (below_size zb));replace HO272:=rb HO272 hb;replace HO275:=rb HO275 hb;replace HB:=am (below_step zb hb);(try clear hb);(try clear ho0);(try clear ho1)) |((with_reducible refine gate_dst (N:=13) rfl ?_);(try (refine gate_guard (by rfl) ?_;dsimp only));refine Kd.R_lit (Kd.int .u32) _ 32 ?hg (N:=13) ?hd (xs:=([999999999] : List Int)) (inner:=[.int .u32 999999999]) (ok:=fun _=>True) (okp:=fun _=>True) ?hr ?hp (fun _ hk=>hk) trivial (Below.refl _ _) (Nat.le_refl _) (by simp) ?_;(case hd=>rfl);(case hg=>rfl);(case hr=>exact zh);(case hp=>exact(Reps.one (show Kd.M (Kd.int .u32) _ _ _ 999999999 [.int .u32 999999999] from rfl) (Reps.none _ _)));intro v284 w105 ho106 hb hg_ hnew_;clear hg_ hnew_;(first | rw [← Ny283.out] at ho106 |(simp only [Int.reduceToNat] at ho106;rw [← Ny283.out] at ho106));replace HO278:=ve HO278 (Kd.R_base ho106) hb;replace HO281:=ve HO281 (Kd.R_base ho106) hb;have HO285:=am (Kd.R_lower (Kd.R_new' (Kd.R_new' ho106 (Kd.R_lt (zR HO272.out))) (Kd.R_lt (zR HO275.out))) (below_size zb));replace HO272:=re HO272 (Kd.R_base ho106) hb;replace HO275:=re HO275 (Kd.R_base ho106) hb;replace HB:=am (below_step zb hb);clear hb ho106) |((with_reducible refine gate_dst (N:=14) rfl ?_);(try (refine gate_guard (by rfl) ?_;dsimp only));refine Kd.R_lit (Kd.int .u32) _ 32 ?hg (N:=14) ?hd (xs:=([1] : List Int)) (inner:=[.int .u32 1]) (ok:=fun _=>True) (okp:=fun _=>True) ?hr ?hp (fun _ hk=>hk) trivial (Below.refl _ _) (Nat.le_refl _) (by simp) ?_;(case hd=>rfl);(case hg=>rfl);(case hr=>exact zh);(case hp=>exact(Reps.one (show Kd.M (Kd.int .u32) _ _ _ 1 [.int .u32 1] from rfl) (Reps.none _ _)));intro v287 w107 ho108 hb hg_ hnew_;clear hg_ hnew_;(first | rw [← Ny286.out] at ho108 |(simp only [Int.reduceToNat] at ho108;rw [← Ny286.out] at ho108));replace HO278:=ve HO278 (Kd.R_base ho108) hb;replace HO281:=ve HO281 (Kd.R_base ho108) hb;have HO288:=am (Kd.R_lower (Kd.R_new' (Kd.R_new' (Kd.R_new' ho108 (Kd.R_lt (zR HO272.out))) (Kd.R_lt (zR HO275.out))) (Kd.R_lt (zR HO285.out))) (below_size zb));replace HO272:=re HO272 (Kd.R_base ho108) hb;replace HO275:=re HO275 (Kd.R_base ho108) hb;replace HO285:=re HO285 (Kd.R_base ho108) hb;replace HB:=am (below_step zb hb);clear hb ho108;obtain⟨Ao109,co109,eo109⟩:=Kd.R_slice HO285.out;subst eo109;obtain⟨Ao110,co110,eo110⟩:=Kd.R_slice HO288.out;subst eo110) |((with_reducible refine gate_dst (N:=15) rfl ?_);(try (refine gate_guard (by rfl) ?_;dsimp only));refine Kd.N_lit (Kd.slice 32 (Kd.int .u32)) _ 26 ?hg (N':=15) ?hd (xs:=([y283,y286] : List (List Int))) (inner:=[.slice Ao109 y283.length co109,.slice Ao110 y286.length co110]) (ok:=(fun k_=>some k_≠(.slice Ao102 y270.length co102 : Value).ownBlock∧some k_≠(.slice Ao103 y273.length co103 : Value).ownBlock)) (okp:=(fun k_=>some k_≠(.slice Ao102 y270.length co102 : Value).ownBlock∧some k_≠(.slice Ao103 y273.length co103 : Value).ownBlock)) ?hr ?hp (fun _ hk=>hk) ((show ∀ k_,w107.heap.size≤k_→(fun k_=>some k_≠(.slice Ao102 y270.length co102 : Value).ownBlock∧some k_≠(.slice Ao103 y273.length co103 : Value).ownBlock) k_ from fun k_ hk=>⟨Kd.fresh' (Kd.R_lt (zR HO272.out)) k_ hk,Kd.fresh' (Kd.R_lt (zR HO275.out)) k_ hk⟩) _ (Nat.le_refl _)) (Below.refl _ _) (Nat.le_refl _) (by simp) ?_;(case hd=>rfl);(case hg=>rfl);(case hr=>exact zh);(case hp=>exact(Reps.one (show Kd.FK (Kd.slice 32 (Kd.int .u32)) _ _ y283 [.slice Ao109 y283.length co109] from(Kd.FK_slice_mk (Kd.R_reads' (Kd.R_mono (ok':=(fun k_=>some k_≠(.slice Ao102 y270.length co102 : Value).ownBlock∧some k_≠(.slice Ao103 y273.length co103 : Value).ownBlock)) (HO285.out) (fun k_ hk=>⟨hk.1.1.2,hk.1.2⟩))).2.1 (Kd.R_F (Kd.R_mono (ok':=(fun k_=>some k_≠(.slice Ao102 y270.length co102 : Value).ownBlock∧some k_≠(.slice Ao103 y273.length co103 : Value).ownBlock)) (HO285.out) (fun k_ hk=>⟨hk.1.1.2,hk.1.2⟩))))) (Reps.one (show Kd.FK (Kd.slice 32 (Kd.int .u32)) _ _ y286 [.slice Ao110 y286.length co110] from(Kd.FK_slice_mk (Kd.R_reads' (Kd.R_mono (ok':=(fun k_=>some k_≠(.slice Ao102 y270.length co102 : Value).ownBlock∧some k_≠(.slice Ao103 y273.length co103 : Value).ownBlock)) (HO288.out) (fun k_ hk=>⟨hk.1.1.2,hk.1.2⟩))).2.1 (Kd.R_F (Kd.R_mono (ok':=(fun k_=>some k_≠(.slice Ao102 y270.length co102 : Value).ownBlock∧some k_≠(.slice Ao103 y273.length co103 : Value).ownBlock)) (HO288.out) (fun k_ hk=>⟨hk.1.1.2,hk.1.2⟩))))) (Reps.none _ _))));intro v290 w111 ho112 hb hg_ hnew_;clear hg_ hnew_;(first | rw [← Ny289.out] at ho112 |(simp only [Int.reduceToNat] at ho112;rw [← Ny289.out] at ho112));replace HO272:=rb HO272 hb;replace HO275:=rb HO275 hb;replace HO278:=ve HO278 (Kd.N_base ho112) hb;replace HO281:=ve HO281 (Kd.N_base ho112) hb;have HO291:=am (Kd.N_lower ho112 (below_size zb));replace HB:=am (below_step zb hb);clear HO285;clear HO288;clear hb ho112;obtain⟨Ao113,co113,eo113⟩:=Kd.N_slice HO291.out;subst eo113) |(go_at_call 11;(with_reducible refine(nat_Add.calls k _ _ y289 t292 _ ?side1 ?side2 A3.out).mono ?_);(case side1=>exact zC (Kd.N_reads' HO291.out).2.2);(case side2=>exact(Kd.N_reads' HO291.out).2.1);rintro e w114 ⟨v293,rfl,ho0,hb⟩;replace HO278:=vb HO278 hb;replace HO281:=vb HO281 hb;have HO294:=am (Kd.V_lower (Kd.V_mono (ok':=fun k_=>some k_≠(.slice Ao102 y270.length co102 : Value).ownBlock∧some k_≠(.slice Ao103 y273.length co103 : Value).ownBlock∧some k_≠(.slice Ao113 y289.length co113 : Value).ownBlock) ho0 (fun k_ hk_=>⟨(Kd.fresh' (Kd.R_lt (zR HO272.out)) k_ hk_),(Kd.fresh' (Kd.R_lt (zR HO275.out)) k_ hk_),(Kd.fresh' (Kd.N_lt (zN HO291.out)) k_ hk_)⟩)) (below_size zb));replace HO272:=rb HO272 hb;replace HO275:=rb HO275 hb;replace HO291:=nb HO291 hb;replace HB:=am (below_step zb hb);(try clear hb);(try clear ho0)) |((with_reducible refine gate_dst (N:=17) rfl ?_);(try (refine gate_guard (by rfl) ?_;dsimp only));refine Kd.R_lit (Kd.int .u32) _ 32 ?hg (N:=17) ?hd (xs:=([0,1] : List Int)) (inner:=[.int .u32 0,.int .u32 1]) (ok:=fun _=>True) (okp:=fun _=>True) ?hr ?hp (fun _ hk=>hk) trivial (Below.refl _ _) (Nat.le_refl _) (by simp) ?_;(case hd=>rfl);(case hg=>rfl);(case hr=>exact zh);(case hp=>exact(Reps.one (show Kd.M (Kd.int .u32) _ _ _ 0 [.int .u32 0] from rfl) (Reps.one (show Kd.M (Kd.int .u32) _ _ _ 1 [.int .u32 1] from rfl) (Reps.none _ _))));intro v296 w115 ho116 hb hg_ hnew_;clear hg_ hnew_;(first | rw [← Ny295.out] at ho116 |(simp only [Int.reduceToNat] at ho116;rw [← Ny295.out] at ho116));replace HO278:=ve HO278 (Kd.R_base ho116) hb;replace HO281:=ve HO281 (Kd.R_base ho116) hb;replace HO291:=am (Kd.N_elder' (zN HO291.out) (Kd.R_base ho116) hb);replace HO294:=ve HO294 (Kd.R_base ho116) hb;have HO297:=am (Kd.R_lower (Kd.R_new' (Kd.R_new' ho116 (Kd.R_lt (zR HO272.out))) (Kd.R_lt (zR HO275.out))) (below_size zb));replace HO272:=re HO272 (Kd.R_base ho116) hb;replace HO275:=re HO275 (Kd.R_base ho116) hb;replace HB:=am (below_step zb hb);clear hb ho116;obtain⟨Ao117,co117,eo117⟩:=Kd.V_slice HO294.out;subst eo117;obtain⟨Ao118,co118,eo118⟩:=Kd.R_slice HO297.out;subst eo118) |(go_at_call 10;(with_reducible refine(whetstonelaw01_same.calls k _ _ t292 _ _ y295 false _ ?side1 ?side2 ?side3 ?side4 A4.out).mono ?_);(case side1=>exact zC (Kd.V_reads' HO294.out).2.2);(case side2=>exact(Kd.V_reads' HO294.out).2.1);(case side3=>exact zC (Kd.R_reads' HO297.out).2.2);(case side4=>exact(Kd.R_reads' HO297.out).2.1);rintro e w' ⟨rfl,⟨nd,rfl⟩⟩))
   go_ret
   exact⟨zf,zb⟩
 ·replace c2:=Bool.eq_false_iff.mpr c2
  subst c2
  have H1 : (some false) = some r:=by rw [if_neg (show ¬ (false = true) by decide)] at H;exact H
  clear H
  have H:=H1
  clear H1
  obtain rfl:=Option.some.inj H
  go_enter Tryd.func8,Tryd.ntmps8
  go_wp2_with (first |((with_reducible refine gate_dst (N:=5) rfl ?_);(try (refine gate_guard (by rfl) ?_;dsimp only));refine Kd.R_lit (Kd.int .u32) _ 32 ?hg (N:=5) ?hd (xs:=([0,1] : List Int)) (inner:=[.int .u32 0,.int .u32 1]) (ok:=fun _=>True) (okp:=fun _=>True) ?hr ?hp (fun _ hk=>hk) trivial (Below.refl _ _) (Nat.le_refl _) (by simp) ?_;(case hd=>rfl);(case hg=>rfl);(case hr=>exact zh);(case hp=>exact(Reps.one (show Kd.M (Kd.int .u32) _ _ _ 0 [.int .u32 0] from rfl) (Reps.one (show Kd.M (Kd.int .u32) _ _ _ 1 [.int .u32 1] from rfl) (Reps.none _ _))));intro v271 w119 ho120 hb hg_ hnew_;clear hg_ hnew_;(first | rw [← Ny270.out] at ho120 |(simp only [Int.reduceToNat] at ho120;rw [← Ny270.out] at ho120));have HO272:=am (Kd.R_lower ho120 (below_size zb));replace HB:=am (below_step zb hb);clear hb ho120) |((with_reducible refine gate_dst (N:=6) rfl ?_);(try (refine gate_guard (by rfl) ?_;dsimp only));refine Kd.R_lit (Kd.int .u32) _ 32 ?hg (N:=6) ?hd (xs:=([7] : List Int)) (inner:=[.int .u32 7]) (ok:=fun _=>True) (okp:=fun _=>True) ?hr ?hp (fun _ hk=>hk) trivial (Below.refl _ _) (Nat.le_refl _) (by simp) ?_;(case hd=>rfl);(case hg=>rfl);(case hr=>exact zh);(case hp=>exact(Reps.one (show Kd.M (Kd.int .u32) _ _ _ 7 [.int .u32 7] from rfl) (Reps.none _ _)));intro v274 w121 ho122 hb hg_ hnew_;clear hg_ hnew_;(first | rw [← Ny273.out] at ho122 |(simp only [Int.reduceToNat] at ho122;rw [← Ny273.out] at ho122));have HO275:=am (Kd.R_lower (Kd.R_new' ho122 (Kd.R_lt (zR HO272.out))) (below_size zb));replace HO272:=re HO272 (Kd.R_base ho122) hb;replace HB:=am (below_step zb hb);clear hb ho122;obtain⟨Ao123,co123,eo123⟩:=Kd.R_slice HO272.out;subst eo123;obtain⟨Ao124,co124,eo124⟩:=Kd.R_slice HO275.out;subst eo124) |((with_reducible refine gate_callee (f:=18) rfl ?_);refine goesL_ (some 7) rfl rfl Tryd.func18 (by kernel_rfl) rfl #[.slice Ao123 y270.length co123,.slice Ao124 y273.length co124] rfl zl ?_;(with_reducible refine(nat_DivMod.calls k _ _ y270 _ _ y273 t276 t279 false _ ?side1 ?side2 ?side3 ?side4 A1.out).mono ?_);(case side1=>exact zC (Kd.R_reads' HO272.out).2.2);(case side2=>exact(Kd.R_reads' HO272.out).2.1);(case side3=>exact zC (Kd.R_reads' HO275.out).2.2);(case side4=>exact(Kd.R_reads' HO275.out).2.1);rintro e w125 ⟨v277,v280,rfl,ho0,ho1,hb⟩;refine⟨_,rfl,?_⟩;have HO278:=am (Kd.V_lower (Kd.V_mono (ok':=fun k_=>some k_≠(.slice Ao123 y270.length co123 : Value).ownBlock∧some k_≠(.slice Ao124 y273.length co124 : Value).ownBlock) ho0 (fun k_ hk_=>⟨(Kd.fresh' (Kd.R_lt (zR HO272.out)) k_ hk_),(Kd.fresh' (Kd.R_lt (zR HO275.out)) k_ hk_)⟩)) (below_size zb));have HO281:=am (Kd.V_lower (Kd.V_mono (ok':=fun k_=>some k_≠(.slice Ao123 y270.length co123 : Value).ownBlock∧some k_≠(.slice Ao124 y273.length co124 : Value).ownBlock) ho1 (fun k_ hk_=>⟨(Kd.fresh' (Kd.R_lt (zR HO272.out)) k_ hk_),(Kd.fresh' (Kd.R_lt (zR HO275.out)) k_ hk_)⟩)) (below_size zb));replace HO272:=rb HO272 hb;replace HO275:=rb HO275 hb;replace HB:=am (below_step zb hb);(try clear hb);(try clear ho0);(try clear ho1)))
  go_ret
  exact⟨zf,zb⟩

/-! ### whetstonelaw01_few: function 9 -/
def whetstonelaw01_few.l0 : Nat→List (List Int)→Int→Option (Bool)
 | 0,_,_=>none
 | k + 1,x0,x3=>if x3 < (x0.length : Int) then(if 0≤x3 then(if ((rd_L2 x0 x3).length : Int) > 40 then(some false) else(whetstonelaw01_few.l0 k x0 (wrap64 (x3 + 1)))) else(none)) else(some (decide ((x0.length : Int)≤8)))
def whetstonelaw01_few.f (k : Nat) (l0 : List (List Int)) : Option (Bool):=whetstonelaw01_few.l0 k l0 0
theorem whetstonelaw01_few.calls (k : Nat) (A0 : Option Addr) (c0 : Nat) (l0 : List (List Int)) (r : Bool) (w : World) (hr0 : Kd.C (Kd.slice 32 (Kd.int .u32)) w A0 l0.length l0) (hc0 : l0.length≤c0) (h : whetstonelaw01_few.f k l0 = some r) :
  Calls Tryd.prog 9 #[.slice A0 l0.length c0] w fun e w'=>e = .returned (.bool r)∧Drawn0 w w':=by
 have HR0:=am hr0
 have HC0:=am hc0
 clear hr0 hc0
 have H : (whetstonelaw01_few.l0 k l0 0) = some r:=h
 clear h
 have H':=am H
 clear H
 go_enter Tryd.func9,Tryd.ntmps9
 go_wp2
 go_loopg [3] k (fun kq v3 w'=>∃ (x3_1 : Int),v3 = .int .i64 x3_1∧Aside0 (whetstonelaw01_few.l0 kq l0 x3_1 = some r)∧Aside0 (kq≤k)∧Drawn0 w w')
 case atStart=>exact⟨(0),ze,H',⟨Nat.le_refl _⟩,by repeat (first | exact Drawn0.refl _ | apply Drawn0.step)⟩
 case round=>
  clear H'
  obtain⟨x3_1,rfl,HA,HK1,⟨m1,rfl⟩⟩:=hrel
  cases gk with
  | zero=>exact absurd HA.out (by simp [whetstonelaw01_few.l0])
  | succ k1=>
   have H:=HA.out
   clear HA
   simp only [whetstonelaw01_few.l0] at H
   by_cases c2 : x3_1 < (l0.length : Int)
   ·rw [if_pos c2] at H
    have c2b0 : decide (x3_1 < (l0.length : Int)) = true:=decide_eq_true c2
    clear c2
    by_cases c3 : 0≤x3_1
    ·rw [if_pos c3] at H
     have c3b0 : decide (0≤x3_1) = true:=decide_eq_true c3
     clear c3
     by_cases c4 : ((rd_L2 l0 x3_1).length : Int) > 40
     ·rw [if_pos c4] at H
      have c4b0 : decide (40 < ((rd_L2 l0 x3_1).length : Int)) = true:=decide_eq_true c4
      have c4b1 : decide (40 < (rd_L2 l0 x3_1).length) = true:=decide_eq_true (by omega)
      clear c4
      obtain rfl:=Option.some.inj H
      have p311 : 0≤(x3_1 : Int):=of_decide_eq_true za
      have q311 : x3_1 < (l0.length : Int):=of_decide_eq_true za
      obtain⟨ad311,A311_0,c311_0,e311,hx311_0,hl311_0,hi311_0⟩:=at_L2 HR0.out x3_1 p311 q311
      cases e311
      have HR311_0:=am hi311_0
      have HC311_0:=am hl311_0
      clear hi311_0 hl311_0
      replace p311:=eq_true p311
      replace q311:=eq_true q311
      go_wp2
      go_ret
      exact⟨ze,by repeat (first | exact Drawn0.refl _ | apply Drawn0.step)⟩
     ·rw [if_neg c4] at H
      have c4b0 : decide (40 < ((rd_L2 l0 x3_1).length : Int)) = false:=decide_eq_false c4
      have c4b1 : decide (40 < (rd_L2 l0 x3_1).length) = false:=decide_eq_false (by omega)
      clear c4
      have H':=am H
      clear H
      have p311 : 0≤(x3_1 : Int):=of_decide_eq_true za
      have q311 : x3_1 < (l0.length : Int):=of_decide_eq_true za
      obtain⟨ad311,A311_0,c311_0,e311,hx311_0,hl311_0,hi311_0⟩:=at_L2 HR0.out x3_1 p311 q311
      cases e311
      have HR311_0:=am hi311_0
      have HC311_0:=am hl311_0
      clear hi311_0 hl311_0
      replace p311:=eq_true p311
      replace q311:=eq_true q311
      go_wp2
      go_roundg k1
      case measure=>have:=HK1.out;omega
      case rel=>exact⟨(wrap64 (x3_1 + 1)),ze,H',⟨by have:=HK1.out;omega⟩,by repeat (first | exact Drawn0.refl _ | apply Drawn0.step)⟩
    ·rw [if_neg c3] at H
     exact absurd H (by simp)
   ·rw [if_neg c2] at H
    have c2b0 : decide (x3_1 < (l0.length : Int)) = false:=decide_eq_false c2
    clear c2
    obtain rfl:=Option.some.inj H
    go_wp2
    go_ret
    exact⟨ze,by repeat (first | exact Drawn0.refl _ | apply Drawn0.step)⟩

/-! ### whetstoneref01_trim: function 39 -/
end Go.Proofs.YtnkkndninilciaaDoor.X

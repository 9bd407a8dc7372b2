-- Printed by xprint.py, this session's own program (wip/tool), out of the translation. Lean checks it.
import Derived.Test.YtnkkndninilciaaDoorZ
import Derived.Test.YtnkkndninilciaaDoorX0
import Derived.Test.YtnkkndninilciaaDoorX1
import Derived.Test.YtnkkndninilciaaDoorX3
import Derived.Test.YtnkkndninilciaaDoorX6
import Derived.Test.YtnkkndninilciaaDoorX7
import Derived.Test.YtnkkndninilciaaDoorX9
import Derived.Test.YtnkkndninilciaaDoorX11
namespace Go.Proofs.YtnkkndninilciaaDoor.X
open Go.Proofs.YtnkkndninilciaaDoor.Z
open Go.RowKit Go.Proofs.YtnkkndninilciaaDoorW.PrintWords Go.Proofs.YtnkkndninilciaaDoorW.PrintLast Go.Proofs.YtnkkndninilciaaDoorW.PrintMore
open List renaming setIfInBounds_toArray → sA, set_cons_zero → sZ, set_cons_succ → sS
open Aside0 renaming mk → am
open Bool renaming true → tt, false → ff
set_option maxHeartbeats 8000000
set_option maxRecDepth 100000
attribute [local go_sem] max2_int min2_int max_two min_two max_three min_three max_four min_four   -- for this text's walks alone
set_option linter.unusedVariables false
set_option linter.unusedSimpArgs false

/-! ### whetstonelaw01_NatRing: function 4 -/
mutual
def whetstonelaw01_NatRing.j0 : Nat→List Int→List Int→List Int→Option (Bool)
 | 0,_,_,_=>none
 | k + 1,x0,x1,x2=>(whetstonelaw01_few.f k (([x0,x1,x2] : List (List Int)))).bind fun t461=>(if t461 = true then(whetstonelaw01_NatRing.j1 k x0 x1 x2) else(some true))
def whetstonelaw01_NatRing.j1 : Nat→List Int→List Int→List Int→Option (Bool)
 | 0,_,_,_=>none
 | k + 1,x0,x1,x2=>(nat_Add.f k (([x0,x1] : List (List Int)))).bind fun t465=>((nat_Mul.f k (([x0,x1] : List (List Int)))).bind fun t471=>((nat_Add.f k (([x1,x0] : List (List Int)))).bind fun t477=>((whetstonelaw01_same.f k t465 t477).bind fun t480=>(if t480 = true then((nat_Mul.f k (([x1,x0] : List (List Int)))).bind fun t484=>((whetstonelaw01_same.f k t471 t484).bind fun t487=>(if t487 = true then((nat_Add.f k (([t465,x2] : List (List Int)))).bind fun t491=>((nat_Add.f k (([x0,x1,x2] : List (List Int)))).bind fun t497=>((whetstonelaw01_same.f k t491 t497).bind fun t500=>(if t500 = true then((nat_Mul.f k (([t471,x2] : List (List Int)))).bind fun t504=>((nat_Mul.f k (([x0,x1,x2] : List (List Int)))).bind fun t510=>((whetstonelaw01_same.f k t504 t510).bind fun t513=>(if t513 = true then((nat_Mul.f k (([x2,t465] : List (List Int)))).bind fun t517=>((nat_Mul.f k (([x2,x0] : List (List Int)))).bind fun t523=>((nat_Mul.f k (([x2,x1] : List (List Int)))).bind fun t529=>((nat_Add.f k (([t523,t529] : List (List Int)))).bind fun t535=>((whetstonelaw01_same.f k t517 t535).bind fun t538=>(if t538 = true then(whetstonelaw01_NatRing.j2 k x0 x1 t465 t471) else(some false))))))) else(some false))))) else(some false))))) else(some false)))) else(some false)))))
def whetstonelaw01_NatRing.j2 : Nat→List Int→List Int→List Int→List Int→Option (Bool)
 | 0,_,_,_,_=>none
 | k + 1,x0,x1,x7,x8=>(nat_Sub.f k x7 x1).bind fun bt539=>((nat_Add.f k (([x1,(([1] : List Int))] : List (List Int)))).bind fun t549=>((nat_Sub.f k x1 t549).bind fun bt552=>(if bt539.2 = true then(if bt552.2 = true then(some false) else((nat_Trim.f k x0).bind fun t556=>((whetstonelaw01_same.f k bt539.1 t556).bind fun t559=>(if t559 = true then((nat_Right.f k x7).bind fun t560=>(if t560 = true then((nat_Right.f k x8).bind fun t561=>(if t561 = true then((nat_Right.f k bt539.1).bind fun t562=>(if t562 = true then(whetstonelaw01_NatRing.j3 k x0 x1) else(some false))) else(some false))) else(some false))) else(some false))))) else(some false))))
def whetstonelaw01_NatRing.j3 : Nat→List Int→List Int→Option (Bool)
 | 0,_,_=>none
 | k + 1,x0,x1=>(nat_DivMod.f k x0 x1).bind fun bt563=>(if bt563.2.2 = true then(whetstonelaw01_NatRing.j4 k x0 x1 bt563.1 bt563.2.1) else((nat_Trim.f k x1).bind fun t570=>(if (t570.length : Int) = 0 then(some ((wrap64 ((bt563.1.length : Int) + (bt563.2.1.length : Int))) == 0)) else(some false))))
def whetstonelaw01_NatRing.j4 : Nat→List Int→List Int→List Int→List Int→Option (Bool)
 | 0,_,_,_,_=>none
 | k + 1,x0,x1,x13,x14=>(nat_Right.f k x13).bind fun t573=>(if t573 = true then((nat_Right.f k x14).bind fun t574=>(if t574 = true then((nat_Cmp.f k x14 x1).bind fun t575=>(if t575 < 0 then((nat_Mul.f k (([x13,x1] : List (List Int)))).bind fun t579=>((nat_Add.f k (([t579,x14] : List (List Int)))).bind fun t585=>((nat_Trim.f k x0).bind fun t588=>((whetstonelaw01_same.f k t585 t588).bind fun t591=>(some t591))))) else(some false))) else(some false))) else(some false))
end
def whetstonelaw01_NatRing.f (k : Nat) (l0 : List Int) (l1 : List Int) (l2 : List Int) : Option (Bool):=(whetstonelaw01_awake.f k).bind fun t457=>(if t457 = true then(whetstonelaw01_NatRing.j0 k l0 l1 l2) else(some false))
theorem whetstonelaw01_NatRing.calls (k : Nat) (P0_ : Nat→Prop) (A0 : Option Addr) (c0 : Nat) (l0 : List Int) (P1_ : Nat→Prop) (A1 : Option Addr) (c1 : Nat) (l1 : List Int) (P2_ : Nat→Prop) (A2 : Option Addr) (c2 : Nat) (l2 : List Int) (r : Bool) (w : World) (hs0 : Kd.V (Kd.int .u32) 32 w w.heap.size (fun k_=>P0_ k_) (.slice A0 l0.length c0) l0) (hs1 : Kd.V (Kd.int .u32) 32 w w.heap.size (fun k_=>P1_ k_) (.slice A1 l1.length c1) l1) (hs2 : Kd.V (Kd.int .u32) 32 w w.heap.size (fun k_=>P2_ k_) (.slice A2 l2.length c2) l2) (hr : r = true) (hG : GW w) (h : whetstonelaw01_NatRing.f k l0 l1 l2 = some r) :
  Calls Tryd.prog 4 #[.slice A0 l0.length c0,.slice A1 l1.length c1,.slice A2 l2.length c2] w fun e w'=>e = .returned (.bool r)∧Below w.heap.size w w':=by
 have HRT:=am hr
 clear hr
 have HG:=am hG
 clear hG
 have HO0:=am (show Kd.V (Kd.int .u32) 32 w w.heap.size (fun k_=>((P0_ k_∨P1_ k_∨P2_ k_)∨w.heap.size≤k_)) (.slice A0 l0.length c0) l0 from Kd.V_mono hs0 (fun k_ hk=>.inl (.inl hk)))
 have HO1:=am (show Kd.V (Kd.int .u32) 32 w w.heap.size (fun k_=>((P0_ k_∨P1_ k_∨P2_ k_)∨w.heap.size≤k_)) (.slice A1 l1.length c1) l1 from Kd.V_mono hs1 (fun k_ hk=>.inl (.inr (.inl hk))))
 have HO2:=am (show Kd.V (Kd.int .u32) 32 w w.heap.size (fun k_=>((P0_ k_∨P1_ k_∨P2_ k_)∨w.heap.size≤k_)) (.slice A2 l2.length c2) l2 from Kd.V_mono hs2 (fun k_ hk=>.inl (.inr (.inr hk))))
 have HB:=am (Below.refl w.heap.size w)
 have H : ((whetstonelaw01_awake.f k).bind fun t457=>(if t457 = true then(whetstonelaw01_NatRing.j0 k l0 l1 l2) else(some false))) = some r:=h
 clear h
 replace H:=Option.bind_eq_some_iff.mp H
 obtain⟨t457,A40,H⟩:=H
 try dsimp only at H
 have A4:=am A40
 clear A40
 have HC5:=am H
 clear H
 go_enter Tryd.func4,Tryd.ntmps4
 go_upto_if 17 with(first |((with_reducible refine gate_callee (f:=8) rfl ?_);refine goesL_ (some 16) rfl rfl Tryd.func8 (by kernel_rfl) rfl #[] rfl zl ?_;(with_reducible refine(whetstonelaw01_awake.calls k  t457 _ ?side1 A4.out).mono ?_);(case side1=>exact GW.below HG.out zb);rintro e w6 ⟨rfl,hb⟩;refine⟨_,rfl,?_⟩;replace HO0:=vb HO0 hb;replace HO1:=vb HO1 hb;replace HO2:=vb HO2 hb;replace HB:=am (below_step zb hb);(try clear hb);skip))
 (try simp only [Act.put,sA,sZ,sS])
 go_cut [] (fun wc=>∃ (kq : Nat),Aside0 (whetstonelaw01_NatRing.j0 kq l0 l1 l2 = some r)∧Aside0 (kq≤k)∧Aside0 (Kd.V (Kd.int .u32) 32 wc w.heap.size (fun k_=>((P0_ k_∨P1_ k_∨P2_ k_)∨w.heap.size≤k_)) (.slice A0 l0.length c0) l0)∧Aside0 (Kd.V (Kd.int .u32) 32 wc w.heap.size (fun k_=>((P0_ k_∨P1_ k_∨P2_ k_)∨w.heap.size≤k_)) (.slice A1 l1.length c1) l1)∧Aside0 (Kd.V (Kd.int .u32) 32 wc w.heap.size (fun k_=>((P0_ k_∨P1_ k_∨P2_ k_)∨w.heap.size≤k_)) (.slice A2 l2.length c2) l2)∧Aside0 (Below w.heap.size w wc))
 case first=>
  have H:=HC5.out
  clear HC5
  by_cases c7 : t457 = true
  ·subst c7
   have H1 : (whetstonelaw01_NatRing.j0 k l0 l1 l2) = some r:=by rw [if_pos rfl] at H;exact H
   clear H
   have H:=H1
   clear H1
   have H':=am H
   clear H
   go_wp2
   go_meet
   case rel=>exact⟨_,H',⟨zo⟩,⟨zV HO0.out⟩,⟨zV HO1.out⟩,⟨zV HO2.out⟩,⟨zb⟩⟩
  ·replace c7:=Bool.eq_false_iff.mpr c7
   subst c7
   have H1 : (some false) = some r:=by rw [if_neg (show ¬ (false = true) by decide)] at H;exact H
   clear H
   have H:=H1
   clear H1
   exact absurd ((Option.some.inj H).trans HRT.out) (by decide)
 case rest=>
  clear HC5
  try clear c1
  try clear c2
  try clear p2
  try clear c4
  try clear c7
  obtain⟨kq,HA,HJ4,HO_0,HO_1,HO_2,HB⟩:=hcut
  cases kq with
  | zero=>exact absurd HA.out (by simp [whetstonelaw01_NatRing.j0])
  | succ kj4=>
   have H:=HA.out
   clear HA
   simp only [whetstonelaw01_NatRing.j0] at H
   obtain⟨y458,hy458⟩ : ∃ y_ : List (List Int),y_ = (([l0,l1,l2] : List (List Int))):=⟨_,rfl⟩
   replace H : ((whetstonelaw01_few.f kj4 y458).bind fun t461=>(if t461 = true then(whetstonelaw01_NatRing.j1 kj4 l0 l1 l2) else(some true))) = some r:=by first |(rw [hy458];with_reducible exact H) |(have H2_:=(Option.bind_some _ _).symm.trans H;rw [hy458];with_reducible exact H2_) |(have H2_:=(Option.bind_some _ _).symm.trans H;with_reducible exact H2_) | with_reducible exact H |(rw [hy458];exact H) | exact H
   have Ny458:=am hy458
   clear hy458
   replace H:=Option.bind_eq_some_iff.mp H
   obtain⟨t461,A80,H⟩:=H
   try dsimp only at H
   have A8:=am A80
   clear A80
   have HC9:=am H
   clear H
   go_upto_if 23 with(first |((with_reducible refine gate_dst (N:=21) rfl ?_);(try (refine gate_guard (by rfl) ?_;dsimp only));refine Kd.N_lit (Kd.slice 32 (Kd.int .u32)) _ 26 ?hg (N':=21) ?hd (xs:=([l0,l1,l2] : List (List Int))) (inner:=[.slice A0 l0.length c0,.slice A1 l1.length c1,.slice A2 l2.length c2]) (ok:=(fun k_=>((P0_ k_∨P1_ k_∨P2_ k_)∨w.heap.size≤k_))) (okp:=(fun k_=>((P0_ k_∨P1_ k_∨P2_ k_)∨w.heap.size≤k_))) ?hr ?hp (fun _ hk=>hk) ((show ∀ k_,wc.heap.size≤k_→(fun k_=>((P0_ k_∨P1_ k_∨P2_ k_)∨w.heap.size≤k_)) k_ from fun k_ hk=>(.inr (Nat.le_trans (below_size zb) hk))) _ (Nat.le_refl _)) (Below.refl _ _) (Nat.le_refl _) (by simp) ?_;(case hd=>rfl);(case hg=>rfl);(case hr=>exact zh);(case hp=>exact(Reps.one (show Kd.FK (Kd.slice 32 (Kd.int .u32)) _ _ l0 [.slice A0 l0.length c0] from(Kd.FK_slice_mk (Kd.V_reads' (Kd.V_mono (ok':=(fun k_=>((P0_ k_∨P1_ k_∨P2_ k_)∨w.heap.size≤k_))) ((by first |(with_reducible exact HO_0.out) |(refine zV ?_;exact HO_0.out))) (fun k_ hk=>by first | exact hk | exact hk | exact zD hk))).2.1 (Kd.V_F (Kd.V_mono (ok':=(fun k_=>((P0_ k_∨P1_ k_∨P2_ k_)∨w.heap.size≤k_))) ((by first |(with_reducible exact HO_0.out) |(refine zV ?_;exact HO_0.out))) (fun k_ hk=>by first | exact hk | exact hk | exact zD hk))))) (Reps.one (show Kd.FK (Kd.slice 32 (Kd.int .u32)) _ _ l1 [.slice A1 l1.length c1] from(Kd.FK_slice_mk (Kd.V_reads' (Kd.V_mono (ok':=(fun k_=>((P0_ k_∨P1_ k_∨P2_ k_)∨w.heap.size≤k_))) ((by first |(with_reducible exact HO_1.out) |(refine zV ?_;exact HO_1.out))) (fun k_ hk=>by first | exact hk | exact hk | exact zD hk))).2.1 (Kd.V_F (Kd.V_mono (ok':=(fun k_=>((P0_ k_∨P1_ k_∨P2_ k_)∨w.heap.size≤k_))) ((by first |(with_reducible exact HO_1.out) |(refine zV ?_;exact HO_1.out))) (fun k_ hk=>by first | exact hk | exact hk | exact zD hk))))) (Reps.one (show Kd.FK (Kd.slice 32 (Kd.int .u32)) _ _ l2 [.slice A2 l2.length c2] from(Kd.FK_slice_mk (Kd.V_reads' (Kd.V_mono (ok':=(fun k_=>((P0_ k_∨P1_ k_∨P2_ k_)∨w.heap.size≤k_))) ((by first |(with_reducible exact HO_2.out) |(refine zV ?_;exact HO_2.out))) (fun k_ hk=>by first | exact hk | exact hk | exact zD hk))).2.1 (Kd.V_F (Kd.V_mono (ok':=(fun k_=>((P0_ k_∨P1_ k_∨P2_ k_)∨w.heap.size≤k_))) ((by first |(with_reducible exact HO_2.out) |(refine zV ?_;exact HO_2.out))) (fun k_ hk=>by first | exact hk | exact hk | exact zD hk))))) (Reps.none _ _)))));intro v459 w10 ho11 hb hg_ hnew_;clear hg_ hnew_;(first | rw [← Ny458.out] at ho11 |(simp only [Int.reduceToNat] at ho11;rw [← Ny458.out] at ho11));replace HO_0:=ve HO_0 (Kd.N_base ho11) hb;replace HO_1:=ve HO_1 (Kd.N_base ho11) hb;replace HO_2:=ve HO_2 (Kd.N_base ho11) hb;have HO460:=am (Kd.N_lower ho11 (below_size zb));replace HB:=am (below_step zb hb);clear hb ho11;obtain⟨Ao12,co12,eo12⟩:=Kd.N_slice HO460.out;subst eo12) |((with_reducible refine gate_callee (f:=9) rfl ?_);refine goesL_ (some 22) rfl rfl Tryd.func9 (by kernel_rfl) rfl #[.slice Ao12 y458.length co12] rfl zl ?_;(with_reducible refine(whetstonelaw01_few.calls kj4 _ _ y458 t461 _ ?side1 ?side2 A8.out).mono ?_);(case side1=>exact zC (Kd.N_reads' HO460.out).2.2);(case side2=>exact(Kd.N_reads' HO460.out).2.1);rintro e w' ⟨rfl,⟨nd,rfl⟩⟩;refine⟨_,rfl,?_⟩))
   (try simp only [Act.put,sA,sZ,sS])
   go_cut [] (fun wc=>∃ (kq : Nat),Aside0 (whetstonelaw01_NatRing.j1 kq l0 l1 l2 = some r)∧Aside0 (kq≤kj4)∧Aside0 (Kd.V (Kd.int .u32) 32 wc w.heap.size (fun k_=>((P0_ k_∨P1_ k_∨P2_ k_)∨w.heap.size≤k_)) (.slice A0 l0.length c0) l0)∧Aside0 (Kd.V (Kd.int .u32) 32 wc w.heap.size (fun k_=>((P0_ k_∨P1_ k_∨P2_ k_)∨w.heap.size≤k_)) (.slice A1 l1.length c1) l1)∧Aside0 (Kd.V (Kd.int .u32) 32 wc w.heap.size (fun k_=>((P0_ k_∨P1_ k_∨P2_ k_)∨w.heap.size≤k_)) (.slice A2 l2.length c2) l2)∧Aside0 (Below w.heap.size w wc))
   case first=>
    have H:=HC9.out
    clear HC9
    by_cases c13 : t461 = true
    ·subst c13
     have H1 : (whetstonelaw01_NatRing.j1 kj4 l0 l1 l2) = some r:=by rw [if_pos rfl] at H;exact H
     clear H
     have H:=H1
     clear H1
     have H':=am H
     clear H
     go_wp2
     go_meet
     case rel=>exact⟨_,H',⟨by have:=HJ4.out;first | omega | exact Nat.le_refl _⟩,⟨by refine zV ?_;exact Kd.V_mono HO_0.out (fun _ hk=>hk.1)⟩,⟨by refine zV ?_;exact Kd.V_mono HO_1.out (fun _ hk=>hk.1)⟩,⟨by refine zV ?_;exact Kd.V_mono HO_2.out (fun _ hk=>hk.1)⟩,⟨zb⟩⟩
    ·replace c13:=Bool.eq_false_iff.mpr c13
     subst c13
     have H1 : (some true) = some r:=by rw [if_neg (show ¬ (false = true) by decide)] at H;exact H
     clear H
     have H:=H1
     clear H1
     obtain rfl:=Option.some.inj H
     go_wp2
     go_ret
     exact⟨zf,zb⟩
   case rest=>
    clear HC9
    try clear c1
    try clear c2
    try clear p2
    try clear c4
    try clear c7
    try clear c8
    try clear c9
    try clear c13
    try clear p2
    obtain⟨kq,HA,HJ8,HO_0,HO_1,HO_2,HB⟩:=hcut
    cases kq with
    | zero=>exact absurd HA.out (by simp [whetstonelaw01_NatRing.j1])
    | succ kj8=>
     have H:=HA.out
     clear HA
     simp only [whetstonelaw01_NatRing.j1] at H
     obtain⟨y462,hy462⟩ : ∃ y_ : List (List Int),y_ = (([l0,l1] : List (List Int))):=⟨_,rfl⟩
     replace H : ((nat_Add.f kj8 y462).bind fun t465=>((nat_Mul.f kj8 (([l0,l1] : List (List Int)))).bind fun t471=>((nat_Add.f kj8 (([l1,l0] : List (List Int)))).bind fun t477=>((whetstonelaw01_same.f kj8 t465 t477).bind fun t480=>(if t480 = true then((nat_Mul.f kj8 (([l1,l0] : List (List Int)))).bind fun t484=>((whetstonelaw01_same.f kj8 t471 t484).bind fun t487=>(if t487 = true then((nat_Add.f kj8 (([t465,l2] : List (List Int)))).bind fun t491=>((nat_Add.f kj8 (([l0,l1,l2] : List (List Int)))).bind fun t497=>((whetstonelaw01_same.f kj8 t491 t497).bind fun t500=>(if t500 = true then((nat_Mul.f kj8 (([t471,l2] : List (List Int)))).bind fun t504=>((nat_Mul.f kj8 (([l0,l1,l2] : List (List Int)))).bind fun t510=>((whetstonelaw01_same.f kj8 t504 t510).bind fun t513=>(if t513 = true then((nat_Mul.f kj8 (([l2,t465] : List (List Int)))).bind fun t517=>((nat_Mul.f kj8 (([l2,l0] : List (List Int)))).bind fun t523=>((nat_Mul.f kj8 (([l2,l1] : List (List Int)))).bind fun t529=>((nat_Add.f kj8 (([t523,t529] : List (List Int)))).bind fun t535=>((whetstonelaw01_same.f kj8 t517 t535).bind fun t538=>(if t538 = true then(whetstonelaw01_NatRing.j2 kj8 l0 l1 t465 t471) else(some false))))))) else(some false))))) else(some false))))) else(some false)))) else(some false)))))) = some r:=by first |(rw [hy462];with_reducible exact H) |(have H2_:=(Option.bind_some _ _).symm.trans H;rw [hy462];with_reducible exact H2_) |(have H2_:=(Option.bind_some _ _).symm.trans H;with_reducible exact H2_) | with_reducible exact H |(rw [hy462];exact H) | exact H
     have Ny462:=am hy462
     clear hy462
     replace H:=Option.bind_eq_some_iff.mp H
     obtain⟨t465,A140,H⟩:=H
     try dsimp only at H
     have A14:=am A140
     clear A140
     obtain⟨y468,hy468⟩ : ∃ y_ : List (List Int),y_ = (([l0,l1] : List (List Int))):=⟨_,rfl⟩
     replace H : ((nat_Mul.f kj8 y468).bind fun t471=>((nat_Add.f kj8 (([l1,l0] : List (List Int)))).bind fun t477=>((whetstonelaw01_same.f kj8 t465 t477).bind fun t480=>(if t480 = true then((nat_Mul.f kj8 (([l1,l0] : List (List Int)))).bind fun t484=>((whetstonelaw01_same.f kj8 t471 t484).bind fun t487=>(if t487 = true then((nat_Add.f kj8 (([t465,l2] : List (List Int)))).bind fun t491=>((nat_Add.f kj8 (([l0,l1,l2] : List (List Int)))).bind fun t497=>((whetstonelaw01_same.f kj8 t491 t497).bind fun t500=>(if t500 = true then((nat_Mul.f kj8 (([t471,l2] : List (List Int)))).bind fun t504=>((nat_Mul.f kj8 (([l0,l1,l2] : List (List Int)))).bind fun t510=>((whetstonelaw01_same.f kj8 t504 t510).bind fun t513=>(if t513 = true then((nat_Mul.f kj8 (([l2,t465] : List (List Int)))).bind fun t517=>((nat_Mul.f kj8 (([l2,l0] : List (List Int)))).bind fun t523=>((nat_Mul.f kj8 (([l2,l1] : List (List Int)))).bind fun t529=>((nat_Add.f kj8 (([t523,t529] : List (List Int)))).bind fun t535=>((whetstonelaw01_same.f kj8 t517 t535).bind fun t538=>(if t538 = true then(whetstonelaw01_NatRing.j2 kj8 l0 l1 t465 t471) else(some false))))))) else(some false))))) else(some false))))) else(some false)))) else(some false))))) = some r:=by first |(rw [hy468];with_reducible exact H) |(have H2_:=(Option.bind_some _ _).symm.trans H;rw [hy468];with_reducible exact H2_) |(have H2_:=(Option.bind_some _ _).symm.trans H;with_reducible exact H2_) | with_reducible exact H |(rw [hy468];exact H) | exact H
     have Ny468:=am hy468
     clear hy468
     replace H:=Option.bind_eq_some_iff.mp H
     obtain⟨t471,A150,H⟩:=H
     try dsimp only at H
     have A15:=am A150
     clear A150
     obtain⟨y474,hy474⟩ : ∃ y_ : List (List Int),y_ = (([l1,l0] : List (List Int))):=⟨_,rfl⟩
     replace H : ((nat_Add.f kj8 y474).bind fun t477=>((whetstonelaw01_same.f kj8 t465 t477).bind fun t480=>(if t480 = true then((nat_Mul.f kj8 (([l1,l0] : List (List Int)))).bind fun t484=>((whetstonelaw01_same.f kj8 t471 t484).bind fun t487=>(if t487 = true then((nat_Add.f kj8 (([t465,l2] : List (List Int)))).bind fun t491=>((nat_Add.f kj8 (([l0,l1,l2] : List (List Int)))).bind fun t497=>((whetstonelaw01_same.f kj8 t491 t497).bind fun t500=>(if t500 = true then((nat_Mul.f kj8 (([t471,l2] : List (List Int)))).bind fun t504=>((nat_Mul.f kj8 (([l0,l1,l2] : List (List Int)))).bind fun t510=>((whetstonelaw01_same.f kj8 t504 t510).bind fun t513=>(if t513 = true then((nat_Mul.f kj8 (([l2,t465] : List (List Int)))).bind fun t517=>((nat_Mul.f kj8 (([l2,l0] : List (List Int)))).bind fun t523=>((nat_Mul.f kj8 (([l2,l1] : List (List Int)))).bind fun t529=>((nat_Add.f kj8 (([t523,t529] : List (List Int)))).bind fun t535=>((whetstonelaw01_same.f kj8 t517 t535).bind fun t538=>(if t538 = true then(whetstonelaw01_NatRing.j2 kj8 l0 l1 t465 t471) else(some false))))))) else(some false))))) else(some false))))) else(some false)))) else(some false)))) = some r:=by first |(rw [hy474];with_reducible exact H) |(have H2_:=(Option.bind_some _ _).symm.trans H;rw [hy474];with_reducible exact H2_) |(have H2_:=(Option.bind_some _ _).symm.trans H;with_reducible exact H2_) | with_reducible exact H |(rw [hy474];exact H) | exact H
     have Ny474:=am hy474
     clear hy474
     replace H:=Option.bind_eq_some_iff.mp H
     obtain⟨t477,A160,H⟩:=H
     try dsimp only at H
     have A16:=am A160
     clear A160
     replace H:=Option.bind_eq_some_iff.mp H
     obtain⟨t480,A170,H⟩:=H
     try dsimp only at H
     have A17:=am A170
     clear A170
     by_cases c18 : t480 = true
     ·subst c18
      have H1 : ((nat_Mul.f kj8 (([l1,l0] : List (List Int)))).bind fun t484=>((whetstonelaw01_same.f kj8 t471 t484).bind fun t487=>(if t487 = true then((nat_Add.f kj8 (([t465,l2] : List (List Int)))).bind fun t491=>((nat_Add.f kj8 (([l0,l1,l2] : List (List Int)))).bind fun t497=>((whetstonelaw01_same.f kj8 t491 t497).bind fun t500=>(if t500 = true then((nat_Mul.f kj8 (([t471,l2] : List (List Int)))).bind fun t504=>((nat_Mul.f kj8 (([l0,l1,l2] : List (List Int)))).bind fun t510=>((whetstonelaw01_same.f kj8 t504 t510).bind fun t513=>(if t513 = true then((nat_Mul.f kj8 (([l2,t465] : List (List Int)))).bind fun t517=>((nat_Mul.f kj8 (([l2,l0] : List (List Int)))).bind fun t523=>((nat_Mul.f kj8 (([l2,l1] : List (List Int)))).bind fun t529=>((nat_Add.f kj8 (([t523,t529] : List (List Int)))).bind fun t535=>((whetstonelaw01_same.f kj8 t517 t535).bind fun t538=>(if t538 = true then(whetstonelaw01_NatRing.j2 kj8 l0 l1 t465 t471) else(some false))))))) else(some false))))) else(some false))))) else(some false)))) = some r:=by rw [if_pos rfl] at H;exact H
      clear H
      have H:=H1
      clear H1
      obtain⟨y481,hy481⟩ : ∃ y_ : List (List Int),y_ = (([l1,l0] : List (List Int))):=⟨_,rfl⟩
      replace H : ((nat_Mul.f kj8 y481).bind fun t484=>((whetstonelaw01_same.f kj8 t471 t484).bind fun t487=>(if t487 = true then((nat_Add.f kj8 (([t465,l2] : List (List Int)))).bind fun t491=>((nat_Add.f kj8 (([l0,l1,l2] : List (List Int)))).bind fun t497=>((whetstonelaw01_same.f kj8 t491 t497).bind fun t500=>(if t500 = true then((nat_Mul.f kj8 (([t471,l2] : List (List Int)))).bind fun t504=>((nat_Mul.f kj8 (([l0,l1,l2] : List (List Int)))).bind fun t510=>((whetstonelaw01_same.f kj8 t504 t510).bind fun t513=>(if t513 = true then((nat_Mul.f kj8 (([l2,t465] : List (List Int)))).bind fun t517=>((nat_Mul.f kj8 (([l2,l0] : List (List Int)))).bind fun t523=>((nat_Mul.f kj8 (([l2,l1] : List (List Int)))).bind fun t529=>((nat_Add.f kj8 (([t523,t529] : List (List Int)))).bind fun t535=>((whetstonelaw01_same.f kj8 t517 t535).bind fun t538=>(if t538 = true then(whetstonelaw01_NatRing.j2 kj8 l0 l1 t465 t471) else(some false))))))) else(some false))))) else(some false))))) else(some false)))) = some r:=by first |(rw [hy481];with_reducible exact H) |(have H2_:=(Option.bind_some _ _).symm.trans H;rw [hy481];with_reducible exact H2_) |(have H2_:=(Option.bind_some _ _).symm.trans H;with_reducible exact H2_) | with_reducible exact H |(rw [hy481];exact H) | exact H
      have Ny481:=am hy481
      clear hy481
      replace H:=Option.bind_eq_some_iff.mp H
      obtain⟨t484,A190,H⟩:=H
      try dsimp only at H
      have A19:=am A190
      clear A190
      replace H:=Option.bind_eq_some_iff.mp H
      obtain⟨t487,A200,H⟩:=H
      try dsimp only at H
      have A20:=am A200
      clear A200
      by_cases c21 : t487 = true
      ·subst c21
       have H1 : ((nat_Add.f kj8 (([t465,l2] : List (List Int)))).bind fun t491=>((nat_Add.f kj8 (([l0,l1,l2] : List (List Int)))).bind fun t497=>((whetstonelaw01_same.f kj8 t491 t497).bind fun t500=>(if t500 = true then((nat_Mul.f kj8 (([t471,l2] : List (List Int)))).bind fun t504=>((nat_Mul.f kj8 (([l0,l1,l2] : List (List Int)))).bind fun t510=>((whetstonelaw01_same.f kj8 t504 t510).bind fun t513=>(if t513 = true then((nat_Mul.f kj8 (([l2,t465] : List (List Int)))).bind fun t517=>((nat_Mul.f kj8 (([l2,l0] : List (List Int)))).bind fun t523=>((nat_Mul.f kj8 (([l2,l1] : List (List Int)))).bind fun t529=>((nat_Add.f kj8 (([t523,t529] : List (List Int)))).bind fun t535=>((whetstonelaw01_same.f kj8 t517 t535).bind fun t538=>(if t538 = true then(whetstonelaw01_NatRing.j2 kj8 l0 l1 t465 t471) else(some false))))))) else(some false))))) else(some false))))) = some r:=by rw [if_pos rfl] at H;exact H
       clear H
       have H:=H1
       clear H1
       obtain⟨y488,hy488⟩ : ∃ y_ : List (List Int),y_ = (([t465,l2] : List (List Int))):=⟨_,rfl⟩
       replace H : ((nat_Add.f kj8 y488).bind fun t491=>((nat_Add.f kj8 (([l0,l1,l2] : List (List Int)))).bind fun t497=>((whetstonelaw01_same.f kj8 t491 t497).bind fun t500=>(if t500 = true then((nat_Mul.f kj8 (([t471,l2] : List (List Int)))).bind fun t504=>((nat_Mul.f kj8 (([l0,l1,l2] : List (List Int)))).bind fun t510=>((whetstonelaw01_same.f kj8 t504 t510).bind fun t513=>(if t513 = true then((nat_Mul.f kj8 (([l2,t465] : List (List Int)))).bind fun t517=>((nat_Mul.f kj8 (([l2,l0] : List (List Int)))).bind fun t523=>((nat_Mul.f kj8 (([l2,l1] : List (List Int)))).bind fun t529=>((nat_Add.f kj8 (([t523,t529] : List (List Int)))).bind fun t535=>((whetstonelaw01_same.f kj8 t517 t535).bind fun t538=>(if t538 = true then(whetstonelaw01_NatRing.j2 kj8 l0 l1 t465 t471) else(some false))))))) else(some false))))) else(some false))))) = some r:=by first |(rw [hy488];with_reducible exact H) |(have H2_:=(Option.bind_some _ _).symm.trans H;rw [hy488];with_reducible exact H2_) |(have H2_:=(Option.bind_some _ _).symm.trans H;with_reducible exact H2_) | with_reducible exact H |(rw [hy488];exact H) | exact H
       have Ny488:=am hy488
       clear hy488
       replace H:=Option.bind_eq_some_iff.mp H
       obtain⟨t491,A220,H⟩:=H
       try dsimp only at H
       have A22:=am A220
       clear A220
       obtain⟨y494,hy494⟩ : ∃ y_ : List (List Int),y_ = (([l0,l1,l2] : List (List Int))):=⟨_,rfl⟩
       replace H : ((nat_Add.f kj8 y494).bind fun t497=>((whetstonelaw01_same.f kj8 t491 t497).bind fun t500=>(if t500 = true then((nat_Mul.f kj8 (([t471,l2] : List (List Int)))).bind fun t504=>((nat_Mul.f kj8 (([l0,l1,l2] : List (List Int)))).bind fun t510=>((whetstonelaw01_same.f kj8 t504 t510).bind fun t513=>(if t513 = true then((nat_Mul.f kj8 (([l2,t465] : List (List Int)))).bind fun t517=>((nat_Mul.f kj8 (([l2,l0] : List (List Int)))).bind fun t523=>((nat_Mul.f kj8 (([l2,l1] : List (List Int)))).bind fun t529=>((nat_Add.f kj8 (([t523,t529] : List (List Int)))).bind fun t535=>((whetstonelaw01_same.f kj8 t517 t535).bind fun t538=>(if t538 = true then(whetstonelaw01_NatRing.j2 kj8 l0 l1 t465 t471) else(some false))))))) else(some false))))) else(some false)))) = some r:=by first |(rw [hy494];with_reducible exact H) |(have H2_:=(Option.bind_some _ _).symm.trans H;rw [hy494];with_reducible exact H2_) |(have H2_:=(Option.bind_some _ _).symm.trans H;with_reducible exact H2_) | with_reducible exact H |(rw [hy494];exact H) | exact H
       have Ny494:=am hy494
       clear hy494
       replace H:=Option.bind_eq_some_iff.mp H
       obtain⟨t497,A230,H⟩:=H
       try dsimp only at H
       have A23:=am A230
       clear A230
       replace H:=Option.bind_eq_some_iff.mp H
       obtain⟨t500,A240,H⟩:=H
       try dsimp only at H
       have A24:=am A240
       clear A240
       by_cases c25 : t500 = true
       ·subst c25
        have H1 : ((nat_Mul.f kj8 (([t471,l2] : List (List Int)))).bind fun t504=>((nat_Mul.f kj8 (([l0,l1,l2] : List (List Int)))).bind fun t510=>((whetstonelaw01_same.f kj8 t504 t510).bind fun t513=>(if t513 = true then((nat_Mul.f kj8 (([l2,t465] : List (List Int)))).bind fun t517=>((nat_Mul.f kj8 (([l2,l0] : List (List Int)))).bind fun t523=>((nat_Mul.f kj8 (([l2,l1] : List (List Int)))).bind fun t529=>((nat_Add.f kj8 (([t523,t529] : List (List Int)))).bind fun t535=>((whetstonelaw01_same.f kj8 t517 t535).bind fun t538=>(if t538 = true then(whetstonelaw01_NatRing.j2 kj8 l0 l1 t465 t471) else(some false))))))) else(some false))))) = some r:=by rw [if_pos rfl] at H;exact H
        clear H
        have H:=H1
        clear H1
        obtain⟨y501,hy501⟩ : ∃ y_ : List (List Int),y_ = (([t471,l2] : List (List Int))):=⟨_,rfl⟩
        replace H : ((nat_Mul.f kj8 y501).bind fun t504=>((nat_Mul.f kj8 (([l0,l1,l2] : List (List Int)))).bind fun t510=>((whetstonelaw01_same.f kj8 t504 t510).bind fun t513=>(if t513 = true then((nat_Mul.f kj8 (([l2,t465] : List (List Int)))).bind fun t517=>((nat_Mul.f kj8 (([l2,l0] : List (List Int)))).bind fun t523=>((nat_Mul.f kj8 (([l2,l1] : List (List Int)))).bind fun t529=>((nat_Add.f kj8 (([t523,t529] : List (List Int)))).bind fun t535=>((whetstonelaw01_same.f kj8 t517 t535).bind fun t538=>(if t538 = true then(whetstonelaw01_NatRing.j2 kj8 l0 l1 t465 t471) else(some false))))))) else(some false))))) = some r:=by first |(rw [hy501];with_reducible exact H) |(have H2_:=(Option.bind_some _ _).symm.trans H;rw [hy501];with_reducible exact H2_) |(have H2_:=(Option.bind_some _ _).symm.trans H;with_reducible exact H2_) | with_reducible exact H |(rw [hy501];exact H) | exact H
        have Ny501:=am hy501
        clear hy501
        replace H:=Option.bind_eq_some_iff.mp H
        obtain⟨t504,A260,H⟩:=H
        try dsimp only at H
        have A26:=am A260
        clear A260
        obtain⟨y507,hy507⟩ : ∃ y_ : List (List Int),y_ = (([l0,l1,l2] : List (List Int))):=⟨_,rfl⟩
        replace H : ((nat_Mul.f kj8 y507).bind fun t510=>((whetstonelaw01_same.f kj8 t504 t510).bind fun t513=>(if t513 = true then((nat_Mul.f kj8 (([l2,t465] : List (List Int)))).bind fun t517=>((nat_Mul.f kj8 (([l2,l0] : List (List Int)))).bind fun t523=>((nat_Mul.f kj8 (([l2,l1] : List (List Int)))).bind fun t529=>((nat_Add.f kj8 (([t523,t529] : List (List Int)))).bind fun t535=>((whetstonelaw01_same.f kj8 t517 t535).bind fun t538=>(if t538 = true then(whetstonelaw01_NatRing.j2 kj8 l0 l1 t465 t471) else(some false))))))) else(some false)))) = some r:=by first |(rw [hy507];with_reducible exact H) |(have H2_:=(Option.bind_some _ _).symm.trans H;rw [hy507];with_reducible exact H2_) |(have H2_:=(Option.bind_some _ _).symm.trans H;with_reducible exact H2_) | with_reducible exact H |(rw [hy507];exact H) | exact H
        have Ny507:=am hy507
        clear hy507
        replace H:=Option.bind_eq_some_iff.mp H
        obtain⟨t510,A270,H⟩:=H
        try dsimp only at H
        have A27:=am A270
        clear A270
        replace H:=Option.bind_eq_some_iff.mp H
        obtain⟨t513,A280,H⟩:=H
        try dsimp only at H
        have A28:=am A280
        clear A280
        by_cases c29 : t513 = true
        ·subst c29
         have H1 : ((nat_Mul.f kj8 (([l2,t465] : List (List Int)))).bind fun t517=>((nat_Mul.f kj8 (([l2,l0] : List (List Int)))).bind fun t523=>((nat_Mul.f kj8 (([l2,l1] : List (List Int)))).bind fun t529=>((nat_Add.f kj8 (([t523,t529] : List (List Int)))).bind fun t535=>((whetstonelaw01_same.f kj8 t517 t535).bind fun t538=>(if t538 = true then(whetstonelaw01_NatRing.j2 kj8 l0 l1 t465 t471) else(some false))))))) = some r:=by rw [if_pos rfl] at H;exact H
         clear H
         have H:=H1
         clear H1
         obtain⟨y514,hy514⟩ : ∃ y_ : List (List Int),y_ = (([l2,t465] : List (List Int))):=⟨_,rfl⟩
         replace H : ((nat_Mul.f kj8 y514).bind fun t517=>((nat_Mul.f kj8 (([l2,l0] : List (List Int)))).bind fun t523=>((nat_Mul.f kj8 (([l2,l1] : List (List Int)))).bind fun t529=>((nat_Add.f kj8 (([t523,t529] : List (List Int)))).bind fun t535=>((whetstonelaw01_same.f kj8 t517 t535).bind fun t538=>(if t538 = true then(whetstonelaw01_NatRing.j2 kj8 l0 l1 t465 t471) else(some false))))))) = some r:=by first |(rw [hy514];with_reducible exact H) |(have H2_:=(Option.bind_some _ _).symm.trans H;rw [hy514];with_reducible exact H2_) |(have H2_:=(Option.bind_some _ _).symm.trans H;with_reducible exact H2_) | with_reducible exact H |(rw [hy514];exact H) | exact H
         have Ny514:=am hy514
         clear hy514
         replace H:=Option.bind_eq_some_iff.mp H
         obtain⟨t517,A300,H⟩:=H
         try dsimp only at H
         have A30:=am A300
         clear A300
         obtain⟨y520,hy520⟩ : ∃ y_ : List (List Int),y_ = (([l2,l0] : List (List Int))):=⟨_,rfl⟩
         replace H : ((nat_Mul.f kj8 y520).bind fun t523=>((nat_Mul.f kj8 (([l2,l1] : List (List Int)))).bind fun t529=>((nat_Add.f kj8 (([t523,t529] : List (List Int)))).bind fun t535=>((whetstonelaw01_same.f kj8 t517 t535).bind fun t538=>(if t538 = true then(whetstonelaw01_NatRing.j2 kj8 l0 l1 t465 t471) else(some false)))))) = some r:=by first |(rw [hy520];with_reducible exact H) |(have H2_:=(Option.bind_some _ _).symm.trans H;rw [hy520];with_reducible exact H2_) |(have H2_:=(Option.bind_some _ _).symm.trans H;with_reducible exact H2_) | with_reducible exact H |(rw [hy520];exact H) | exact H
         have Ny520:=am hy520
         clear hy520
         replace H:=Option.bind_eq_some_iff.mp H
         obtain⟨t523,A310,H⟩:=H
         try dsimp only at H
         have A31:=am A310
         clear A310
         obtain⟨y526,hy526⟩ : ∃ y_ : List (List Int),y_ = (([l2,l1] : List (List Int))):=⟨_,rfl⟩
         replace H : ((nat_Mul.f kj8 y526).bind fun t529=>((nat_Add.f kj8 (([t523,t529] : List (List Int)))).bind fun t535=>((whetstonelaw01_same.f kj8 t517 t535).bind fun t538=>(if t538 = true then(whetstonelaw01_NatRing.j2 kj8 l0 l1 t465 t471) else(some false))))) = some r:=by first |(rw [hy526];with_reducible exact H) |(have H2_:=(Option.bind_some _ _).symm.trans H;rw [hy526];with_reducible exact H2_) |(have H2_:=(Option.bind_some _ _).symm.trans H;with_reducible exact H2_) | with_reducible exact H |(rw [hy526];exact H) | exact H
         have Ny526:=am hy526
         clear hy526
         replace H:=Option.bind_eq_some_iff.mp H
         obtain⟨t529,A320,H⟩:=H
         try dsimp only at H
         have A32:=am A320
         clear A320
         obtain⟨y532,hy532⟩ : ∃ y_ : List (List Int),y_ = (([t523,t529] : List (List Int))):=⟨_,rfl⟩
         replace H : ((nat_Add.f kj8 y532).bind fun t535=>((whetstonelaw01_same.f kj8 t517 t535).bind fun t538=>(if t538 = true then(whetstonelaw01_NatRing.j2 kj8 l0 l1 t465 t471) else(some false)))) = some r:=by first |(rw [hy532];with_reducible exact H) |(have H2_:=(Option.bind_some _ _).symm.trans H;rw [hy532];with_reducible exact H2_) |(have H2_:=(Option.bind_some _ _).symm.trans H;with_reducible exact H2_) | with_reducible exact H |(rw [hy532];exact H) | exact H
         have Ny532:=am hy532
         clear hy532
         replace H:=Option.bind_eq_some_iff.mp H
         obtain⟨t535,A330,H⟩:=H
         try dsimp only at H
         have A33:=am A330
         clear A330
         replace H:=Option.bind_eq_some_iff.mp H
         obtain⟨t538,A340,H⟩:=H
         try dsimp only at H
         have A34:=am A340
         clear A340
         have HC35:=am H
         clear H
         go_upto_if 91 with(first |((with_reducible refine gate_dst (N:=26) rfl ?_);(try (refine gate_guard (by rfl) ?_;dsimp only));refine Kd.N_lit (Kd.slice 32 (Kd.int .u32)) _ 26 ?hg (N':=26) ?hd (xs:=([l0,l1] : List (List Int))) (inner:=[.slice A0 l0.length c0,.slice A1 l1.length c1]) (ok:=(fun k_=>((P0_ k_∨P1_ k_∨P2_ k_)∨w.heap.size≤k_))) (okp:=(fun k_=>((P0_ k_∨P1_ k_∨P2_ k_)∨w.heap.size≤k_))) ?hr ?hp (fun _ hk=>hk) ((show ∀ k_,wc.heap.size≤k_→(fun k_=>((P0_ k_∨P1_ k_∨P2_ k_)∨w.heap.size≤k_)) k_ from fun k_ hk=>(.inr (Nat.le_trans (below_size zb) hk))) _ (Nat.le_refl _)) (Below.refl _ _) (Nat.le_refl _) (by simp) ?_;(case hd=>rfl);(case hg=>rfl);(case hr=>exact zh);(case hp=>exact(Reps.one (show Kd.FK (Kd.slice 32 (Kd.int .u32)) _ _ l0 [.slice A0 l0.length c0] from(Kd.FK_slice_mk (Kd.V_reads' (Kd.V_mono (ok':=(fun k_=>((P0_ k_∨P1_ k_∨P2_ k_)∨w.heap.size≤k_))) ((by first |(with_reducible exact HO_0.out) |(refine zV ?_;exact HO_0.out))) (fun k_ hk=>by first | exact hk | exact hk | exact zD hk))).2.1 (Kd.V_F (Kd.V_mono (ok':=(fun k_=>((P0_ k_∨P1_ k_∨P2_ k_)∨w.heap.size≤k_))) ((by first |(with_reducible exact HO_0.out) |(refine zV ?_;exact HO_0.out))) (fun k_ hk=>by first | exact hk | exact hk | exact zD hk))))) (Reps.one (show Kd.FK (Kd.slice 32 (Kd.int .u32)) _ _ l1 [.slice A1 l1.length c1] from(Kd.FK_slice_mk (Kd.V_reads' (Kd.V_mono (ok':=(fun k_=>((P0_ k_∨P1_ k_∨P2_ k_)∨w.heap.size≤k_))) ((by first |(with_reducible exact HO_1.out) |(refine zV ?_;exact HO_1.out))) (fun k_ hk=>by first | exact hk | exact hk | exact zD hk))).2.1 (Kd.V_F (Kd.V_mono (ok':=(fun k_=>((P0_ k_∨P1_ k_∨P2_ k_)∨w.heap.size≤k_))) ((by first |(with_reducible exact HO_1.out) |(refine zV ?_;exact HO_1.out))) (fun k_ hk=>by first | exact hk | exact hk | exact zD hk))))) (Reps.none _ _))));intro v463 w36 ho37 hb hg_ hnew_;clear hg_ hnew_;(first | rw [← Ny462.out] at ho37 |(simp only [Int.reduceToNat] at ho37;rw [← Ny462.out] at ho37));replace HO_0:=ve HO_0 (Kd.N_base ho37) hb;replace HO_1:=ve HO_1 (Kd.N_base ho37) hb;replace HO_2:=ve HO_2 (Kd.N_base ho37) hb;have HO464:=am (Kd.N_lower ho37 (below_size zb));replace HB:=am (below_step zb hb);clear hb ho37;obtain⟨Ao38,co38,eo38⟩:=Kd.N_slice HO464.out;subst eo38) |((with_reducible refine gate_callee (f:=11) rfl ?_);refine goesL_ (some 27) rfl rfl Tryd.func11 (by kernel_rfl) rfl #[.slice Ao38 y462.length co38] rfl zl ?_;(with_reducible refine(nat_Add.calls kj8 _ _ y462 t465 _ ?side1 ?side2 A14.out).mono ?_);(case side1=>exact zC (Kd.N_reads' HO464.out).2.2);(case side2=>exact(Kd.N_reads' HO464.out).2.1);rintro e w39 ⟨v466,rfl,ho0,hb⟩;refine⟨_,rfl,?_⟩;replace HO_0:=vb HO_0 hb;replace HO_1:=vb HO_1 hb;replace HO_2:=vb HO_2 hb;have HO467:=am (Kd.V_lower (Kd.V_mono (ok':=fun k_=>((P0_ k_∨P1_ k_∨P2_ k_)∨w.heap.size≤k_)∧some k_≠(.slice Ao38 y462.length co38 : Value).ownBlock) ho0 (fun k_ hk_=>⟨(.inr (Nat.le_trans (below_size zb) hk_)),(Kd.fresh' (Kd.N_lt (zN HO464.out)) k_ hk_)⟩)) (below_size zb));replace HO464:=nb HO464 hb;replace HB:=am (below_step zb hb);(try clear hb);(try clear ho0);clear HO464) |((with_reducible refine gate_dst (N:=30) rfl ?_);(try (refine gate_guard (by rfl) ?_;dsimp only));refine Kd.N_lit (Kd.slice 32 (Kd.int .u32)) _ 26 ?hg (N':=30) ?hd (xs:=([l0,l1] : List (List Int))) (inner:=[.slice A0 l0.length c0,.slice A1 l1.length c1]) (ok:=(fun k_=>((P0_ k_∨P1_ k_∨P2_ k_)∨w.heap.size≤k_))) (okp:=(fun k_=>((P0_ k_∨P1_ k_∨P2_ k_)∨w.heap.size≤k_))) ?hr ?hp (fun _ hk=>hk) ((show ∀ k_,w39.heap.size≤k_→(fun k_=>((P0_ k_∨P1_ k_∨P2_ k_)∨w.heap.size≤k_)) k_ from fun k_ hk=>(.inr (Nat.le_trans (below_size zb) hk))) _ (Nat.le_refl _)) (Below.refl _ _) (Nat.le_refl _) (by simp) ?_;(case hd=>rfl);(case hg=>rfl);(case hr=>exact zh);(case hp=>exact(Reps.one (show Kd.FK (Kd.slice 32 (Kd.int .u32)) _ _ l0 [.slice A0 l0.length c0] from(Kd.FK_slice_mk (Kd.V_reads' (Kd.V_mono (ok':=(fun k_=>((P0_ k_∨P1_ k_∨P2_ k_)∨w.heap.size≤k_))) ((by first |(with_reducible exact HO_0.out) |(refine zV ?_;exact HO_0.out))) (fun k_ hk=>by first | exact hk.1 | exact hk | exact zD hk))).2.1 (Kd.V_F (Kd.V_mono (ok':=(fun k_=>((P0_ k_∨P1_ k_∨P2_ k_)∨w.heap.size≤k_))) ((by first |(with_reducible exact HO_0.out) |(refine zV ?_;exact HO_0.out))) (fun k_ hk=>by first | exact hk.1 | exact hk | exact zD hk))))) (Reps.one (show Kd.FK (Kd.slice 32 (Kd.int .u32)) _ _ l1 [.slice A1 l1.length c1] from(Kd.FK_slice_mk (Kd.V_reads' (Kd.V_mono (ok':=(fun k_=>((P0_ k_∨P1_ k_∨P2_ k_)∨w.heap.size≤k_))) ((by first |(with_reducible exact HO_1.out) |(refine zV ?_;exact HO_1.out))) (fun k_ hk=>by first | exact hk.1 | exact hk | exact zD hk))).2.1 (Kd.V_F (Kd.V_mono (ok':=(fun k_=>((P0_ k_∨P1_ k_∨P2_ k_)∨w.heap.size≤k_))) ((by first |(with_reducible exact HO_1.out) |(refine zV ?_;exact HO_1.out))) (fun k_ hk=>by first | exact hk.1 | exact hk | exact zD hk))))) (Reps.none _ _))));intro v469 w40 ho41 hb hg_ hnew_;clear hg_ hnew_;(first | rw [← Ny468.out] at ho41 |(simp only [Int.reduceToNat] at ho41;rw [← Ny468.out] at ho41));replace HO_0:=ve HO_0 (Kd.N_base ho41) hb;replace HO_1:=ve HO_1 (Kd.N_base ho41) hb;replace HO_2:=ve HO_2 (Kd.N_base ho41) hb;replace HO467:=ve HO467 (Kd.N_base ho41) hb;have HO470:=am (Kd.N_lower ho41 (below_size zb));replace HB:=am (below_step zb hb);clear hb ho41;obtain⟨Ao42,co42,eo42⟩:=Kd.N_slice HO470.out;subst eo42) |((with_reducible refine gate_callee (f:=13) rfl ?_);refine goesL_ (some 31) rfl rfl Tryd.func13 (by kernel_rfl) rfl #[.slice Ao42 y468.length co42] rfl zl ?_;(with_reducible refine(nat_Mul.calls kj8 _ _ y468 t471 _ ?side1 ?side2 A15.out).mono ?_);(case side1=>exact zC (Kd.N_reads' HO470.out).2.2);(case side2=>exact(Kd.N_reads' HO470.out).2.1);rintro e w43 ⟨v472,rfl,ho0,hb⟩;refine⟨_,rfl,?_⟩;replace HO_0:=vb HO_0 hb;replace HO_1:=vb HO_1 hb;replace HO_2:=vb HO_2 hb;replace HO467:=vb HO467 hb;have HO473:=am (Kd.V_lower (Kd.V_mono (ok':=fun k_=>((P0_ k_∨P1_ k_∨P2_ k_)∨w.heap.size≤k_)∧some k_≠(.slice Ao42 y468.length co42 : Value).ownBlock) ho0 (fun k_ hk_=>⟨(.inr (Nat.le_trans (below_size zb) hk_)),(Kd.fresh' (Kd.N_lt (zN HO470.out)) k_ hk_)⟩)) (below_size zb));replace HO470:=nb HO470 hb;replace HB:=am (below_step zb hb);(try clear hb);(try clear ho0);clear HO470) |((with_reducible refine gate_dst (N:=35) rfl ?_);(try (refine gate_guard (by rfl) ?_;dsimp only));refine Kd.N_lit (Kd.slice 32 (Kd.int .u32)) _ 26 ?hg (N':=35) ?hd (xs:=([l1,l0] : List (List Int))) (inner:=[.slice A1 l1.length c1,.slice A0 l0.length c0]) (ok:=(fun k_=>((P0_ k_∨P1_ k_∨P2_ k_)∨w.heap.size≤k_))) (okp:=(fun k_=>((P0_ k_∨P1_ k_∨P2_ k_)∨w.heap.size≤k_))) ?hr ?hp (fun _ hk=>hk) ((show ∀ k_,w43.heap.size≤k_→(fun k_=>((P0_ k_∨P1_ k_∨P2_ k_)∨w.heap.size≤k_)) k_ from fun k_ hk=>(.inr (Nat.le_trans (below_size zb) hk))) _ (Nat.le_refl _)) (Below.refl _ _) (Nat.le_refl _) (by simp) ?_;(case hd=>rfl);(case hg=>rfl);(case hr=>exact zh);(case hp=>exact(Reps.one (show Kd.FK (Kd.slice 32 (Kd.int .u32)) _ _ l1 [.slice A1 l1.length c1] from(Kd.FK_slice_mk (Kd.V_reads' (Kd.V_mono (ok':=(fun k_=>((P0_ k_∨P1_ k_∨P2_ k_)∨w.heap.size≤k_))) ((by first |(with_reducible exact HO_1.out) |(refine zV ?_;exact HO_1.out))) (fun k_ hk=>by first | exact hk.1.1 | exact hk | exact zD hk))).2.1 (Kd.V_F (Kd.V_mono (ok':=(fun k_=>((P0_ k_∨P1_ k_∨P2_ k_)∨w.heap.size≤k_))) ((by first |(with_reducible exact HO_1.out) |(refine zV ?_;exact HO_1.out))) (fun k_ hk=>by first | exact hk.1.1 | exact hk | exact zD hk))))) (Reps.one (show Kd.FK (Kd.slice 32 (Kd.int .u32)) _ _ l0 [.slice A0 l0.length c0] from(Kd.FK_slice_mk (Kd.V_reads' (Kd.V_mono (ok':=(fun k_=>((P0_ k_∨P1_ k_∨P2_ k_)∨w.heap.size≤k_))) ((by first |(with_reducible exact HO_0.out) |(refine zV ?_;exact HO_0.out))) (fun k_ hk=>by first | exact hk.1.1 | exact hk | exact zD hk))).2.1 (Kd.V_F (Kd.V_mono (ok':=(fun k_=>((P0_ k_∨P1_ k_∨P2_ k_)∨w.heap.size≤k_))) ((by first |(with_reducible exact HO_0.out) |(refine zV ?_;exact HO_0.out))) (fun k_ hk=>by first | exact hk.1.1 | exact hk | exact zD hk))))) (Reps.none _ _))));intro v475 w44 ho45 hb hg_ hnew_;clear hg_ hnew_;(first | rw [← Ny474.out] at ho45 |(simp only [Int.reduceToNat] at ho45;rw [← Ny474.out] at ho45));replace HO_0:=ve HO_0 (Kd.N_base ho45) hb;replace HO_1:=ve HO_1 (Kd.N_base ho45) hb;replace HO_2:=ve HO_2 (Kd.N_base ho45) hb;replace HO467:=ve HO467 (Kd.N_base ho45) hb;replace HO473:=ve HO473 (Kd.N_base ho45) hb;have HO476:=am (Kd.N_lower ho45 (below_size zb));replace HB:=am (below_step zb hb);clear hb ho45;obtain⟨Ao46,co46,eo46⟩:=Kd.N_slice HO476.out;subst eo46) |((with_reducible refine gate_callee (f:=11) rfl ?_);refine goesL_ (some 36) rfl rfl Tryd.func11 (by kernel_rfl) rfl #[.slice Ao46 y474.length co46] rfl zl ?_;(with_reducible refine(nat_Add.calls kj8 _ _ y474 t477 _ ?side1 ?side2 A16.out).mono ?_);(case side1=>exact zC (Kd.N_reads' HO476.out).2.2);(case side2=>exact(Kd.N_reads' HO476.out).2.1);rintro e w47 ⟨v478,rfl,ho0,hb⟩;refine⟨_,rfl,?_⟩;replace HO_0:=vb HO_0 hb;replace HO_1:=vb HO_1 hb;replace HO_2:=vb HO_2 hb;replace HO467:=vb HO467 hb;replace HO473:=vb HO473 hb;have HO479:=am (Kd.V_lower (Kd.V_mono (ok':=fun k_=>((P0_ k_∨P1_ k_∨P2_ k_)∨w.heap.size≤k_)∧some k_≠(.slice Ao46 y474.length co46 : Value).ownBlock) ho0 (fun k_ hk_=>⟨(.inr (Nat.le_trans (below_size zb) hk_)),(Kd.fresh' (Kd.N_lt (zN HO476.out)) k_ hk_)⟩)) (below_size zb));replace HO476:=nb HO476 hb;replace HB:=am (below_step zb hb);(try clear hb);(try clear ho0);clear HO476;obtain⟨Ao48,co48,eo48⟩:=Kd.V_slice HO467.out;subst eo48;obtain⟨Ao49,co49,eo49⟩:=Kd.V_slice HO479.out;subst eo49) |((with_reducible refine gate_callee (f:=10) rfl ?_);refine goesL_ (some 37) rfl rfl Tryd.func10 (by kernel_rfl) rfl #[.slice Ao48 t465.length co48,.slice Ao49 t477.length co49] rfl zl ?_;(with_reducible refine(whetstonelaw01_same.calls kj8 _ _ t465 _ _ t477 true _ ?side1 ?side2 ?side3 ?side4 A17.out).mono ?_);(case side1=>exact zC (Kd.V_reads' HO467.out).2.2);(case side2=>exact(Kd.V_reads' HO467.out).2.1);(case side3=>exact zC (Kd.V_reads' HO479.out).2.2);(case side4=>exact(Kd.V_reads' HO479.out).2.1);rintro e w' ⟨rfl,⟨nd,rfl⟩⟩;refine⟨_,rfl,?_⟩;(try (rw [drewN_self w47];generalize hq_ : World.drewN w47 _ = w47;have n0_ : Aside0 (Kd.V (Kd.int .u32) 32 w47 w.heap.size (fun k_=>((P0_ k_∨P1_ k_∨P2_ k_)∨w.heap.size≤k_)) (.slice Ao48 t465.length co48) t465):=⟨by rw [← hq_];exact(by refine zV ?_;exact Kd.V_mono HO467.out (fun _ hk=>by first | exact hk.1.1.1 | exact hk | exact zD hk))⟩;have n1_ : Aside0 (Kd.V (Kd.int .u32) 32 w47 w.heap.size (fun k_=>((P0_ k_∨P1_ k_∨P2_ k_)∨w.heap.size≤k_)) v472 t471):=⟨by rw [← hq_];exact(by refine zV ?_;exact Kd.V_mono HO473.out (fun _ hk=>by first | exact hk.1.1 | exact hk | exact zD hk))⟩;have n2_ : Aside0 (Kd.V (Kd.int .u32) 32 w47 w.heap.size (fun k_=>((P0_ k_∨P1_ k_∨P2_ k_)∨w.heap.size≤k_)) (.slice Ao49 t477.length co49) t477):=⟨by rw [← hq_];exact(by refine zV ?_;exact Kd.V_mono HO479.out (fun _ hk=>hk.1))⟩;have n3_ : Aside0 (Kd.V (Kd.int .u32) 32 w47 w.heap.size (fun k_=>((P0_ k_∨P1_ k_∨P2_ k_)∨w.heap.size≤k_)) (.slice A0 l0.length c0) l0):=⟨by rw [← hq_];exact(by refine zV ?_;exact Kd.V_mono HO_0.out (fun _ hk=>by first | exact hk.1.1.1 | exact hk | exact zD hk))⟩;have n4_ : Aside0 (Kd.V (Kd.int .u32) 32 w47 w.heap.size (fun k_=>((P0_ k_∨P1_ k_∨P2_ k_)∨w.heap.size≤k_)) (.slice A1 l1.length c1) l1):=⟨by rw [← hq_];exact(by refine zV ?_;exact Kd.V_mono HO_1.out (fun _ hk=>by first | exact hk.1.1.1 | exact hk | exact zD hk))⟩;have n5_ : Aside0 (Kd.V (Kd.int .u32) 32 w47 w.heap.size (fun k_=>((P0_ k_∨P1_ k_∨P2_ k_)∨w.heap.size≤k_)) (.slice A2 l2.length c2) l2):=⟨by rw [← hq_];exact(by refine zV ?_;exact Kd.V_mono HO_2.out (fun _ hk=>by first | exact hk.1.1.1 | exact hk | exact zD hk))⟩;have n6_ : Aside0 (Below w.heap.size w w47):=⟨by rw [← hq_];exact zb⟩;clear HO467 HO473 HO479 HO_0 HO_1 HO_2 HB hq_;have HO467:=n0_;have HO473:=n1_;have HO479:=n2_;have HO_0:=n3_;have HO_1:=n4_;have HO_2:=n5_;have HB:=n6_;clear n0_ n1_ n2_ n3_ n4_ n5_ n6_));clear HO479) |((with_reducible refine gate_dst (N:=43) rfl ?_);(try (refine gate_guard (by rfl) ?_;dsimp only));refine Kd.N_lit (Kd.slice 32 (Kd.int .u32)) _ 26 ?hg (N':=43) ?hd (xs:=([l1,l0] : List (List Int))) (inner:=[.slice A1 l1.length c1,.slice A0 l0.length c0]) (ok:=(fun k_=>((P0_ k_∨P1_ k_∨P2_ k_)∨w.heap.size≤k_))) (okp:=(fun k_=>((P0_ k_∨P1_ k_∨P2_ k_)∨w.heap.size≤k_))) ?hr ?hp (fun _ hk=>hk) ((show ∀ k_,w47.heap.size≤k_→(fun k_=>((P0_ k_∨P1_ k_∨P2_ k_)∨w.heap.size≤k_)) k_ from fun k_ hk=>(.inr (Nat.le_trans (below_size zb) hk))) _ (Nat.le_refl _)) (Below.refl _ _) (Nat.le_refl _) (by simp) ?_;(case hd=>rfl);(case hg=>rfl);(case hr=>exact zh);(case hp=>exact(Reps.one (show Kd.FK (Kd.slice 32 (Kd.int .u32)) _ _ l1 [.slice A1 l1.length c1] from(Kd.FK_slice_mk (Kd.V_reads' (Kd.V_mono (ok':=(fun k_=>((P0_ k_∨P1_ k_∨P2_ k_)∨w.heap.size≤k_))) ((by first |(with_reducible exact HO_1.out) |(refine zV ?_;exact HO_1.out))) (fun k_ hk=>by first | exact hk.1.1.1 | exact hk | exact zD hk))).2.1 (Kd.V_F (Kd.V_mono (ok':=(fun k_=>((P0_ k_∨P1_ k_∨P2_ k_)∨w.heap.size≤k_))) ((by first |(with_reducible exact HO_1.out) |(refine zV ?_;exact HO_1.out))) (fun k_ hk=>by first | exact hk.1.1.1 | exact hk | exact zD hk))))) (Reps.one (show Kd.FK (Kd.slice 32 (Kd.int .u32)) _ _ l0 [.slice A0 l0.length c0] from(Kd.FK_slice_mk (Kd.V_reads' (Kd.V_mono (ok':=(fun k_=>((P0_ k_∨P1_ k_∨P2_ k_)∨w.heap.size≤k_))) ((by first |(with_reducible exact HO_0.out) |(refine zV ?_;exact HO_0.out))) (fun k_ hk=>by first | exact hk.1.1.1 | exact hk | exact zD hk))).2.1 (Kd.V_F (Kd.V_mono (ok':=(fun k_=>((P0_ k_∨P1_ k_∨P2_ k_)∨w.heap.size≤k_))) ((by first |(with_reducible exact HO_0.out) |(refine zV ?_;exact HO_0.out))) (fun k_ hk=>by first | exact hk.1.1.1 | exact hk | exact zD hk))))) (Reps.none _ _))));intro v482 w50 ho51 hb hg_ hnew_;clear hg_ hnew_;(first | rw [← Ny481.out] at ho51 |(simp only [Int.reduceToNat] at ho51;rw [← Ny481.out] at ho51));replace HO_0:=ve HO_0 (Kd.N_base ho51) hb;replace HO_1:=ve HO_1 (Kd.N_base ho51) hb;replace HO_2:=ve HO_2 (Kd.N_base ho51) hb;replace HO467:=ve HO467 (Kd.N_base ho51) hb;replace HO473:=ve HO473 (Kd.N_base ho51) hb;have HO483:=am (Kd.N_lower ho51 (below_size zb));replace HB:=am (below_step zb hb);clear hb ho51;obtain⟨Ao52,co52,eo52⟩:=Kd.N_slice HO483.out;subst eo52) |(go_at_call 13;(with_reducible refine(nat_Mul.calls kj8 _ _ y481 t484 _ ?side1 ?side2 A19.out).mono ?_);(case side1=>exact zC (Kd.N_reads' HO483.out).2.2);(case side2=>exact(Kd.N_reads' HO483.out).2.1);rintro e w53 ⟨v485,rfl,ho0,hb⟩;replace HO_0:=vb HO_0 hb;replace HO_1:=vb HO_1 hb;replace HO_2:=vb HO_2 hb;replace HO467:=vb HO467 hb;replace HO473:=vb HO473 hb;have HO486:=am (Kd.V_lower (Kd.V_mono (ok':=fun k_=>((P0_ k_∨P1_ k_∨P2_ k_)∨w.heap.size≤k_)∧some k_≠(.slice Ao52 y481.length co52 : Value).ownBlock) ho0 (fun k_ hk_=>⟨(.inr (Nat.le_trans (below_size zb) hk_)),(Kd.fresh' (Kd.N_lt (zN HO483.out)) k_ hk_)⟩)) (below_size zb));replace HO483:=nb HO483 hb;replace HB:=am (below_step zb hb);(try clear hb);(try clear ho0);clear HO483;obtain⟨Ao54,co54,eo54⟩:=Kd.V_slice HO473.out;subst eo54;obtain⟨Ao55,co55,eo55⟩:=Kd.V_slice HO486.out;subst eo55) |(go_at_call 10;(with_reducible refine(whetstonelaw01_same.calls kj8 _ _ t471 _ _ t484 true _ ?side1 ?side2 ?side3 ?side4 A20.out).mono ?_);(case side1=>exact zC (Kd.V_reads' HO473.out).2.2);(case side2=>exact(Kd.V_reads' HO473.out).2.1);(case side3=>exact zC (Kd.V_reads' HO486.out).2.2);(case side4=>exact(Kd.V_reads' HO486.out).2.1);rintro e w' ⟨rfl,⟨nd,rfl⟩⟩;(try (rw [drewN_self w53];generalize hq_ : World.drewN w53 _ = w53;have n0_ : Aside0 (Kd.V (Kd.int .u32) 32 w53 w.heap.size (fun k_=>((P0_ k_∨P1_ k_∨P2_ k_)∨w.heap.size≤k_)) (.slice Ao48 t465.length co48) t465):=⟨by rw [← hq_];exact(by refine zV ?_;exact Kd.V_mono HO467.out (fun _ hk=>by first | exact hk.1.1.1.1 | exact hk | exact zD hk))⟩;have n1_ : Aside0 (Kd.V (Kd.int .u32) 32 w53 w.heap.size (fun k_=>((P0_ k_∨P1_ k_∨P2_ k_)∨w.heap.size≤k_)) (.slice Ao54 t471.length co54) t471):=⟨by rw [← hq_];exact(by refine zV ?_;exact Kd.V_mono HO473.out (fun _ hk=>by first | exact hk.1.1.1 | exact hk | exact zD hk))⟩;have n2_ : Aside0 (Kd.V (Kd.int .u32) 32 w53 w.heap.size (fun k_=>((P0_ k_∨P1_ k_∨P2_ k_)∨w.heap.size≤k_)) (.slice Ao55 t484.length co55) t484):=⟨by rw [← hq_];exact(by refine zV ?_;exact Kd.V_mono HO486.out (fun _ hk=>hk.1))⟩;have n3_ : Aside0 (Kd.V (Kd.int .u32) 32 w53 w.heap.size (fun k_=>((P0_ k_∨P1_ k_∨P2_ k_)∨w.heap.size≤k_)) (.slice A0 l0.length c0) l0):=⟨by rw [← hq_];exact(by refine zV ?_;exact Kd.V_mono HO_0.out (fun _ hk=>by first | exact hk.1.1.1.1 | exact hk | exact zD hk))⟩;have n4_ : Aside0 (Kd.V (Kd.int .u32) 32 w53 w.heap.size (fun k_=>((P0_ k_∨P1_ k_∨P2_ k_)∨w.heap.size≤k_)) (.slice A1 l1.length c1) l1):=⟨by rw [← hq_];exact(by refine zV ?_;exact Kd.V_mono HO_1.out (fun _ hk=>by first | exact hk.1.1.1.1 | exact hk | exact zD hk))⟩;have n5_ : Aside0 (Kd.V (Kd.int .u32) 32 w53 w.heap.size (fun k_=>((P0_ k_∨P1_ k_∨P2_ k_)∨w.heap.size≤k_)) (.slice A2 l2.length c2) l2):=⟨by rw [← hq_];exact(by refine zV ?_;exact Kd.V_mono HO_2.out (fun _ hk=>by first | exact hk.1.1.1.1 | exact hk | exact zD hk))⟩;have n6_ : Aside0 (Below w.heap.size w w53):=⟨by rw [← hq_];exact zb⟩;clear HO467 HO473 HO486 HO_0 HO_1 HO_2 HB hq_;have HO467:=n0_;have HO473:=n1_;have HO486:=n2_;have HO_0:=n3_;have HO_1:=n4_;have HO_2:=n5_;have HB:=n6_;clear n0_ n1_ n2_ n3_ n4_ n5_ n6_));clear HO486) |((with_reducible refine gate_dst (N:=51) rfl ?_);(try (refine gate_guard (by rfl) ?_;dsimp only));refine Kd.N_lit (Kd.slice 32 (Kd.int .u32)) _ 26 ?hg (N':=51) ?hd (xs:=([t465,l2] : List (List Int))) (inner:=[.slice Ao48 t465.length co48,.slice A2 l2.length c2]) (ok:=(fun k_=>((P0_ k_∨P1_ k_∨P2_ k_)∨w.heap.size≤k_))) (okp:=(fun k_=>((P0_ k_∨P1_ k_∨P2_ k_)∨w.heap.size≤k_))) ?hr ?hp (fun _ hk=>hk) ((show ∀ k_,w53.heap.size≤k_→(fun k_=>((P0_ k_∨P1_ k_∨P2_ k_)∨w.heap.size≤k_)) k_ from fun k_ hk=>(.inr (Nat.le_trans (below_size zb) hk))) _ (Nat.le_refl _)) (Below.refl _ _) (Nat.le_refl _) (by simp) ?_;(case hd=>rfl);(case hg=>rfl);(case hr=>exact zh);(case hp=>exact(Reps.one (show Kd.FK (Kd.slice 32 (Kd.int .u32)) _ _ t465 [.slice Ao48 t465.length co48] from(Kd.FK_slice_mk (Kd.V_reads' (Kd.V_mono (ok':=(fun k_=>((P0_ k_∨P1_ k_∨P2_ k_)∨w.heap.size≤k_))) ((by first |(with_reducible exact HO467.out) |(refine zV ?_;exact HO467.out))) (fun k_ hk=>by first | exact hk.1.1.1.1 | exact hk | exact zD hk))).2.1 (Kd.V_F (Kd.V_mono (ok':=(fun k_=>((P0_ k_∨P1_ k_∨P2_ k_)∨w.heap.size≤k_))) ((by first |(with_reducible exact HO467.out) |(refine zV ?_;exact HO467.out))) (fun k_ hk=>by first | exact hk.1.1.1.1 | exact hk | exact zD hk))))) (Reps.one (show Kd.FK (Kd.slice 32 (Kd.int .u32)) _ _ l2 [.slice A2 l2.length c2] from(Kd.FK_slice_mk (Kd.V_reads' (Kd.V_mono (ok':=(fun k_=>((P0_ k_∨P1_ k_∨P2_ k_)∨w.heap.size≤k_))) ((by first |(with_reducible exact HO_2.out) |(refine zV ?_;exact HO_2.out))) (fun k_ hk=>by first | exact hk.1.1.1.1 | exact hk | exact zD hk))).2.1 (Kd.V_F (Kd.V_mono (ok':=(fun k_=>((P0_ k_∨P1_ k_∨P2_ k_)∨w.heap.size≤k_))) ((by first |(with_reducible exact HO_2.out) |(refine zV ?_;exact HO_2.out))) (fun k_ hk=>by first | exact hk.1.1.1.1 | exact hk | exact zD hk))))) (Reps.none _ _))));intro v489 w56 ho57 hb hg_ hnew_;clear hg_ hnew_;(first | rw [← Ny488.out] at ho57 |(simp only [Int.reduceToNat] at ho57;rw [← Ny488.out] at ho57));replace HO_0:=ve HO_0 (Kd.N_base ho57) hb;replace HO_1:=ve HO_1 (Kd.N_base ho57) hb;replace HO_2:=ve HO_2 (Kd.N_base ho57) hb;replace HO467:=ve HO467 (Kd.N_base ho57) hb;replace HO473:=ve HO473 (Kd.N_base ho57) hb;have HO490:=am (Kd.N_lower ho57 (below_size zb));replace HB:=am (below_step zb hb);clear hb ho57;obtain⟨Ao58,co58,eo58⟩:=Kd.N_slice HO490.out;subst eo58) |(go_at_call 11;(with_reducible refine(nat_Add.calls kj8 _ _ y488 t491 _ ?side1 ?side2 A22.out).mono ?_);(case side1=>exact zC (Kd.N_reads' HO490.out).2.2);(case side2=>exact(Kd.N_reads' HO490.out).2.1);rintro e w59 ⟨v492,rfl,ho0,hb⟩;replace HO_0:=vb HO_0 hb;replace HO_1:=vb HO_1 hb;replace HO_2:=vb HO_2 hb;replace HO467:=vb HO467 hb;replace HO473:=vb HO473 hb;have HO493:=am (Kd.V_lower (Kd.V_mono (ok':=fun k_=>((P0_ k_∨P1_ k_∨P2_ k_)∨w.heap.size≤k_)∧some k_≠(.slice Ao58 y488.length co58 : Value).ownBlock) ho0 (fun k_ hk_=>⟨(.inr (Nat.le_trans (below_size zb) hk_)),(Kd.fresh' (Kd.N_lt (zN HO490.out)) k_ hk_)⟩)) (below_size zb));replace HO490:=nb HO490 hb;replace HB:=am (below_step zb hb);(try clear hb);(try clear ho0);clear HO490) |((with_reducible refine gate_dst (N:=56) rfl ?_);(try (refine gate_guard (by rfl) ?_;dsimp only));refine Kd.N_lit (Kd.slice 32 (Kd.int .u32)) _ 26 ?hg (N':=56) ?hd (xs:=([l0,l1,l2] : List (List Int))) (inner:=[.slice A0 l0.length c0,.slice A1 l1.length c1,.slice A2 l2.length c2]) (ok:=(fun k_=>((P0_ k_∨P1_ k_∨P2_ k_)∨w.heap.size≤k_))) (okp:=(fun k_=>((P0_ k_∨P1_ k_∨P2_ k_)∨w.heap.size≤k_))) ?hr ?hp (fun _ hk=>hk) ((show ∀ k_,w59.heap.size≤k_→(fun k_=>((P0_ k_∨P1_ k_∨P2_ k_)∨w.heap.size≤k_)) k_ from fun k_ hk=>(.inr (Nat.le_trans (below_size zb) hk))) _ (Nat.le_refl _)) (Below.refl _ _) (Nat.le_refl _) (by simp) ?_;(case hd=>rfl);(case hg=>rfl);(case hr=>exact zh);(case hp=>exact(Reps.one (show Kd.FK (Kd.slice 32 (Kd.int .u32)) _ _ l0 [.slice A0 l0.length c0] from(Kd.FK_slice_mk (Kd.V_reads' (Kd.V_mono (ok':=(fun k_=>((P0_ k_∨P1_ k_∨P2_ k_)∨w.heap.size≤k_))) ((by first |(with_reducible exact HO_0.out) |(refine zV ?_;exact HO_0.out))) (fun k_ hk=>by first | exact hk.1.1.1.1.1 | exact hk | exact zD hk))).2.1 (Kd.V_F (Kd.V_mono (ok':=(fun k_=>((P0_ k_∨P1_ k_∨P2_ k_)∨w.heap.size≤k_))) ((by first |(with_reducible exact HO_0.out) |(refine zV ?_;exact HO_0.out))) (fun k_ hk=>by first | exact hk.1.1.1.1.1 | exact hk | exact zD hk))))) (Reps.one (show Kd.FK (Kd.slice 32 (Kd.int .u32)) _ _ l1 [.slice A1 l1.length c1] from(Kd.FK_slice_mk (Kd.V_reads' (Kd.V_mono (ok':=(fun k_=>((P0_ k_∨P1_ k_∨P2_ k_)∨w.heap.size≤k_))) ((by first |(with_reducible exact HO_1.out) |(refine zV ?_;exact HO_1.out))) (fun k_ hk=>by first | exact hk.1.1.1.1.1 | exact hk | exact zD hk))).2.1 (Kd.V_F (Kd.V_mono (ok':=(fun k_=>((P0_ k_∨P1_ k_∨P2_ k_)∨w.heap.size≤k_))) ((by first |(with_reducible exact HO_1.out) |(refine zV ?_;exact HO_1.out))) (fun k_ hk=>by first | exact hk.1.1.1.1.1 | exact hk | exact zD hk))))) (Reps.one (show Kd.FK (Kd.slice 32 (Kd.int .u32)) _ _ l2 [.slice A2 l2.length c2] from(Kd.FK_slice_mk (Kd.V_reads' (Kd.V_mono (ok':=(fun k_=>((P0_ k_∨P1_ k_∨P2_ k_)∨w.heap.size≤k_))) ((by first |(with_reducible exact HO_2.out) |(refine zV ?_;exact HO_2.out))) (fun k_ hk=>by first | exact hk.1.1.1.1.1 | exact hk | exact zD hk))).2.1 (Kd.V_F (Kd.V_mono (ok':=(fun k_=>((P0_ k_∨P1_ k_∨P2_ k_)∨w.heap.size≤k_))) ((by first |(with_reducible exact HO_2.out) |(refine zV ?_;exact HO_2.out))) (fun k_ hk=>by first | exact hk.1.1.1.1.1 | exact hk | exact zD hk))))) (Reps.none _ _)))));intro v495 w60 ho61 hb hg_ hnew_;clear hg_ hnew_;(first | rw [← Ny494.out] at ho61 |(simp only [Int.reduceToNat] at ho61;rw [← Ny494.out] at ho61));replace HO_0:=ve HO_0 (Kd.N_base ho61) hb;replace HO_1:=ve HO_1 (Kd.N_base ho61) hb;replace HO_2:=ve HO_2 (Kd.N_base ho61) hb;replace HO467:=ve HO467 (Kd.N_base ho61) hb;replace HO473:=ve HO473 (Kd.N_base ho61) hb;replace HO493:=ve HO493 (Kd.N_base ho61) hb;have HO496:=am (Kd.N_lower ho61 (below_size zb));replace HB:=am (below_step zb hb);clear hb ho61;obtain⟨Ao62,co62,eo62⟩:=Kd.N_slice HO496.out;subst eo62) |(go_at_call 11;(with_reducible refine(nat_Add.calls kj8 _ _ y494 t497 _ ?side1 ?side2 A23.out).mono ?_);(case side1=>exact zC (Kd.N_reads' HO496.out).2.2);(case side2=>exact(Kd.N_reads' HO496.out).2.1);rintro e w63 ⟨v498,rfl,ho0,hb⟩;replace HO_0:=vb HO_0 hb;replace HO_1:=vb HO_1 hb;replace HO_2:=vb HO_2 hb;replace HO467:=vb HO467 hb;replace HO473:=vb HO473 hb;replace HO493:=vb HO493 hb;have HO499:=am (Kd.V_lower (Kd.V_mono (ok':=fun k_=>((P0_ k_∨P1_ k_∨P2_ k_)∨w.heap.size≤k_)∧some k_≠(.slice Ao62 y494.length co62 : Value).ownBlock) ho0 (fun k_ hk_=>⟨(.inr (Nat.le_trans (below_size zb) hk_)),(Kd.fresh' (Kd.N_lt (zN HO496.out)) k_ hk_)⟩)) (below_size zb));replace HO496:=nb HO496 hb;replace HB:=am (below_step zb hb);(try clear hb);(try clear ho0);clear HO496;obtain⟨Ao64,co64,eo64⟩:=Kd.V_slice HO493.out;subst eo64;obtain⟨Ao65,co65,eo65⟩:=Kd.V_slice HO499.out;subst eo65) |(go_at_call 10;(with_reducible refine(whetstonelaw01_same.calls kj8 _ _ t491 _ _ t497 true _ ?side1 ?side2 ?side3 ?side4 A24.out).mono ?_);(case side1=>exact zC (Kd.V_reads' HO493.out).2.2);(case side2=>exact(Kd.V_reads' HO493.out).2.1);(case side3=>exact zC (Kd.V_reads' HO499.out).2.2);(case side4=>exact(Kd.V_reads' HO499.out).2.1);rintro e w' ⟨rfl,⟨nd,rfl⟩⟩;(try (rw [drewN_self w63];generalize hq_ : World.drewN w63 _ = w63;have n0_ : Aside0 (Kd.V (Kd.int .u32) 32 w63 w.heap.size (fun k_=>((P0_ k_∨P1_ k_∨P2_ k_)∨w.heap.size≤k_)) (.slice Ao48 t465.length co48) t465):=⟨by rw [← hq_];exact(by refine zV ?_;exact Kd.V_mono HO467.out (fun _ hk=>by first | exact hk.1.1.1.1.1.1 | exact hk | exact zD hk))⟩;have n1_ : Aside0 (Kd.V (Kd.int .u32) 32 w63 w.heap.size (fun k_=>((P0_ k_∨P1_ k_∨P2_ k_)∨w.heap.size≤k_)) (.slice Ao54 t471.length co54) t471):=⟨by rw [← hq_];exact(by refine zV ?_;exact Kd.V_mono HO473.out (fun _ hk=>by first | exact hk.1.1.1.1.1 | exact hk | exact zD hk))⟩;have n2_ : Aside0 (Kd.V (Kd.int .u32) 32 w63 w.heap.size (fun k_=>((P0_ k_∨P1_ k_∨P2_ k_)∨w.heap.size≤k_)) (.slice Ao64 t491.length co64) t491):=⟨by rw [← hq_];exact(by refine zV ?_;exact Kd.V_mono HO493.out (fun _ hk=>by first | exact hk.1.1 | exact hk | exact zD hk))⟩;have n3_ : Aside0 (Kd.V (Kd.int .u32) 32 w63 w.heap.size (fun k_=>((P0_ k_∨P1_ k_∨P2_ k_)∨w.heap.size≤k_)) (.slice Ao65 t497.length co65) t497):=⟨by rw [← hq_];exact(by refine zV ?_;exact Kd.V_mono HO499.out (fun _ hk=>hk.1))⟩;have n4_ : Aside0 (Kd.V (Kd.int .u32) 32 w63 w.heap.size (fun k_=>((P0_ k_∨P1_ k_∨P2_ k_)∨w.heap.size≤k_)) (.slice A0 l0.length c0) l0):=⟨by rw [← hq_];exact(by refine zV ?_;exact Kd.V_mono HO_0.out (fun _ hk=>by first | exact hk.1.1.1.1.1.1 | exact hk | exact zD hk))⟩;have n5_ : Aside0 (Kd.V (Kd.int .u32) 32 w63 w.heap.size (fun k_=>((P0_ k_∨P1_ k_∨P2_ k_)∨w.heap.size≤k_)) (.slice A1 l1.length c1) l1):=⟨by rw [← hq_];exact(by refine zV ?_;exact Kd.V_mono HO_1.out (fun _ hk=>by first | exact hk.1.1.1.1.1.1 | exact hk | exact zD hk))⟩;have n6_ : Aside0 (Kd.V (Kd.int .u32) 32 w63 w.heap.size (fun k_=>((P0_ k_∨P1_ k_∨P2_ k_)∨w.heap.size≤k_)) (.slice A2 l2.length c2) l2):=⟨by rw [← hq_];exact(by refine zV ?_;exact Kd.V_mono HO_2.out (fun _ hk=>by first | exact hk.1.1.1.1.1.1 | exact hk | exact zD hk))⟩;have n7_ : Aside0 (Below w.heap.size w w63):=⟨by rw [← hq_];exact zb⟩;clear HO467 HO473 HO493 HO499 HO_0 HO_1 HO_2 HB hq_;have HO467:=n0_;have HO473:=n1_;have HO493:=n2_;have HO499:=n3_;have HO_0:=n4_;have HO_1:=n5_;have HO_2:=n6_;have HB:=n7_;clear n0_ n1_ n2_ n3_ n4_ n5_ n6_ n7_));clear HO493 HO499) |((with_reducible refine gate_dst (N:=64) rfl ?_);(try (refine gate_guard (by rfl) ?_;dsimp only));refine Kd.N_lit (Kd.slice 32 (Kd.int .u32)) _ 26 ?hg (N':=64) ?hd (xs:=([t471,l2] : List (List Int))) (inner:=[.slice Ao54 t471.length co54,.slice A2 l2.length c2]) (ok:=(fun k_=>((P0_ k_∨P1_ k_∨P2_ k_)∨w.heap.size≤k_))) (okp:=(fun k_=>((P0_ k_∨P1_ k_∨P2_ k_)∨w.heap.size≤k_))) ?hr ?hp (fun _ hk=>hk) ((show ∀ k_,w63.heap.size≤k_→(fun k_=>((P0_ k_∨P1_ k_∨P2_ k_)∨w.heap.size≤k_)) k_ from fun k_ hk=>(.inr (Nat.le_trans (below_size zb) hk))) _ (Nat.le_refl _)) (Below.refl _ _) (Nat.le_refl _) (by simp) ?_;(case hd=>rfl);(case hg=>rfl);(case hr=>exact zh);(case hp=>exact(Reps.one (show Kd.FK (Kd.slice 32 (Kd.int .u32)) _ _ t471 [.slice Ao54 t471.length co54] from(Kd.FK_slice_mk (Kd.V_reads' (Kd.V_mono (ok':=(fun k_=>((P0_ k_∨P1_ k_∨P2_ k_)∨w.heap.size≤k_))) ((by first |(with_reducible exact HO473.out) |(refine zV ?_;exact HO473.out))) (fun k_ hk=>by first | exact hk.1.1.1.1.1 | exact hk | exact zD hk))).2.1 (Kd.V_F (Kd.V_mono (ok':=(fun k_=>((P0_ k_∨P1_ k_∨P2_ k_)∨w.heap.size≤k_))) ((by first |(with_reducible exact HO473.out) |(refine zV ?_;exact HO473.out))) (fun k_ hk=>by first | exact hk.1.1.1.1.1 | exact hk | exact zD hk))))) (Reps.one (show Kd.FK (Kd.slice 32 (Kd.int .u32)) _ _ l2 [.slice A2 l2.length c2] from(Kd.FK_slice_mk (Kd.V_reads' (Kd.V_mono (ok':=(fun k_=>((P0_ k_∨P1_ k_∨P2_ k_)∨w.heap.size≤k_))) ((by first |(with_reducible exact HO_2.out) |(refine zV ?_;exact HO_2.out))) (fun k_ hk=>by first | exact hk.1.1.1.1.1.1 | exact hk | exact zD hk))).2.1 (Kd.V_F (Kd.V_mono (ok':=(fun k_=>((P0_ k_∨P1_ k_∨P2_ k_)∨w.heap.size≤k_))) ((by first |(with_reducible exact HO_2.out) |(refine zV ?_;exact HO_2.out))) (fun k_ hk=>by first | exact hk.1.1.1.1.1.1 | exact hk | exact zD hk))))) (Reps.none _ _))));intro v502 w66 ho67 hb hg_ hnew_;clear hg_ hnew_;(first | rw [← Ny501.out] at ho67 |(simp only [Int.reduceToNat] at ho67;rw [← Ny501.out] at ho67));replace HO_0:=ve HO_0 (Kd.N_base ho67) hb;replace HO_1:=ve HO_1 (Kd.N_base ho67) hb;replace HO_2:=ve HO_2 (Kd.N_base ho67) hb;replace HO467:=ve HO467 (Kd.N_base ho67) hb;replace HO473:=ve HO473 (Kd.N_base ho67) hb;have HO503:=am (Kd.N_lower ho67 (below_size zb));replace HB:=am (below_step zb hb);clear hb ho67;obtain⟨Ao68,co68,eo68⟩:=Kd.N_slice HO503.out;subst eo68) |(go_at_call 13;(with_reducible refine(nat_Mul.calls kj8 _ _ y501 t504 _ ?side1 ?side2 A26.out).mono ?_);(case side1=>exact zC (Kd.N_reads' HO503.out).2.2);(case side2=>exact(Kd.N_reads' HO503.out).2.1);rintro e w69 ⟨v505,rfl,ho0,hb⟩;replace HO_0:=vb HO_0 hb;replace HO_1:=vb HO_1 hb;replace HO_2:=vb HO_2 hb;replace HO467:=vb HO467 hb;replace HO473:=vb HO473 hb;have HO506:=am (Kd.V_lower (Kd.V_mono (ok':=fun k_=>((P0_ k_∨P1_ k_∨P2_ k_)∨w.heap.size≤k_)∧some k_≠(.slice Ao68 y501.length co68 : Value).ownBlock) ho0 (fun k_ hk_=>⟨(.inr (Nat.le_trans (below_size zb) hk_)),(Kd.fresh' (Kd.N_lt (zN HO503.out)) k_ hk_)⟩)) (below_size zb));replace HO503:=nb HO503 hb;replace HB:=am (below_step zb hb);(try clear hb);(try clear ho0);clear HO503) |((with_reducible refine gate_dst (N:=69) rfl ?_);(try (refine gate_guard (by rfl) ?_;dsimp only));refine Kd.N_lit (Kd.slice 32 (Kd.int .u32)) _ 26 ?hg (N':=69) ?hd (xs:=([l0,l1,l2] : List (List Int))) (inner:=[.slice A0 l0.length c0,.slice A1 l1.length c1,.slice A2 l2.length c2]) (ok:=(fun k_=>((P0_ k_∨P1_ k_∨P2_ k_)∨w.heap.size≤k_))) (okp:=(fun k_=>((P0_ k_∨P1_ k_∨P2_ k_)∨w.heap.size≤k_))) ?hr ?hp (fun _ hk=>hk) ((show ∀ k_,w69.heap.size≤k_→(fun k_=>((P0_ k_∨P1_ k_∨P2_ k_)∨w.heap.size≤k_)) k_ from fun k_ hk=>(.inr (Nat.le_trans (below_size zb) hk))) _ (Nat.le_refl _)) (Below.refl _ _) (Nat.le_refl _) (by simp) ?_;(case hd=>rfl);(case hg=>rfl);(case hr=>exact zh);(case hp=>exact(Reps.one (show Kd.FK (Kd.slice 32 (Kd.int .u32)) _ _ l0 [.slice A0 l0.length c0] from(Kd.FK_slice_mk (Kd.V_reads' (Kd.V_mono (ok':=(fun k_=>((P0_ k_∨P1_ k_∨P2_ k_)∨w.heap.size≤k_))) ((by first |(with_reducible exact HO_0.out) |(refine zV ?_;exact HO_0.out))) (fun k_ hk=>by first | exact hk.1.1.1.1.1.1.1 | exact hk | exact zD hk))).2.1 (Kd.V_F (Kd.V_mono (ok':=(fun k_=>((P0_ k_∨P1_ k_∨P2_ k_)∨w.heap.size≤k_))) ((by first |(with_reducible exact HO_0.out) |(refine zV ?_;exact HO_0.out))) (fun k_ hk=>by first | exact hk.1.1.1.1.1.1.1 | exact hk | exact zD hk))))) (Reps.one (show Kd.FK (Kd.slice 32 (Kd.int .u32)) _ _ l1 [.slice A1 l1.length c1] from(Kd.FK_slice_mk (Kd.V_reads' (Kd.V_mono (ok':=(fun k_=>((P0_ k_∨P1_ k_∨P2_ k_)∨w.heap.size≤k_))) ((by first |(with_reducible exact HO_1.out) |(refine zV ?_;exact HO_1.out))) (fun k_ hk=>by first | exact hk.1.1.1.1.1.1.1 | exact hk | exact zD hk))).2.1 (Kd.V_F (Kd.V_mono (ok':=(fun k_=>((P0_ k_∨P1_ k_∨P2_ k_)∨w.heap.size≤k_))) ((by first |(with_reducible exact HO_1.out) |(refine zV ?_;exact HO_1.out))) (fun k_ hk=>by first | exact hk.1.1.1.1.1.1.1 | exact hk | exact zD hk))))) (Reps.one (show Kd.FK (Kd.slice 32 (Kd.int .u32)) _ _ l2 [.slice A2 l2.length c2] from(Kd.FK_slice_mk (Kd.V_reads' (Kd.V_mono (ok':=(fun k_=>((P0_ k_∨P1_ k_∨P2_ k_)∨w.heap.size≤k_))) ((by first |(with_reducible exact HO_2.out) |(refine zV ?_;exact HO_2.out))) (fun k_ hk=>by first | exact hk.1.1.1.1.1.1.1 | exact hk | exact zD hk))).2.1 (Kd.V_F (Kd.V_mono (ok':=(fun k_=>((P0_ k_∨P1_ k_∨P2_ k_)∨w.heap.size≤k_))) ((by first |(with_reducible exact HO_2.out) |(refine zV ?_;exact HO_2.out))) (fun k_ hk=>by first | exact hk.1.1.1.1.1.1.1 | exact hk | exact zD hk))))) (Reps.none _ _)))));intro v508 w70 ho71 hb hg_ hnew_;clear hg_ hnew_;(first | rw [← Ny507.out] at ho71 |(simp only [Int.reduceToNat] at ho71;rw [← Ny507.out] at ho71));replace HO_0:=ve HO_0 (Kd.N_base ho71) hb;replace HO_1:=ve HO_1 (Kd.N_base ho71) hb;replace HO_2:=ve HO_2 (Kd.N_base ho71) hb;replace HO467:=ve HO467 (Kd.N_base ho71) hb;replace HO473:=ve HO473 (Kd.N_base ho71) hb;replace HO506:=ve HO506 (Kd.N_base ho71) hb;have HO509:=am (Kd.N_lower ho71 (below_size zb));replace HB:=am (below_step zb hb);clear hb ho71;obtain⟨Ao72,co72,eo72⟩:=Kd.N_slice HO509.out;subst eo72) |(go_at_call 13;(with_reducible refine(nat_Mul.calls kj8 _ _ y507 t510 _ ?side1 ?side2 A27.out).mono ?_);(case side1=>exact zC (Kd.N_reads' HO509.out).2.2);(case side2=>exact(Kd.N_reads' HO509.out).2.1);rintro e w73 ⟨v511,rfl,ho0,hb⟩;replace HO_0:=vb HO_0 hb;replace HO_1:=vb HO_1 hb;replace HO_2:=vb HO_2 hb;replace HO467:=vb HO467 hb;replace HO473:=vb HO473 hb;replace HO506:=vb HO506 hb;have HO512:=am (Kd.V_lower (Kd.V_mono (ok':=fun k_=>((P0_ k_∨P1_ k_∨P2_ k_)∨w.heap.size≤k_)∧some k_≠(.slice Ao72 y507.length co72 : Value).ownBlock) ho0 (fun k_ hk_=>⟨(.inr (Nat.le_trans (below_size zb) hk_)),(Kd.fresh' (Kd.N_lt (zN HO509.out)) k_ hk_)⟩)) (below_size zb));replace HO509:=nb HO509 hb;replace HB:=am (below_step zb hb);(try clear hb);(try clear ho0);clear HO509;obtain⟨Ao74,co74,eo74⟩:=Kd.V_slice HO506.out;subst eo74;obtain⟨Ao75,co75,eo75⟩:=Kd.V_slice HO512.out;subst eo75) |(go_at_call 10;(with_reducible refine(whetstonelaw01_same.calls kj8 _ _ t504 _ _ t510 true _ ?side1 ?side2 ?side3 ?side4 A28.out).mono ?_);(case side1=>exact zC (Kd.V_reads' HO506.out).2.2);(case side2=>exact(Kd.V_reads' HO506.out).2.1);(case side3=>exact zC (Kd.V_reads' HO512.out).2.2);(case side4=>exact(Kd.V_reads' HO512.out).2.1);rintro e w' ⟨rfl,⟨nd,rfl⟩⟩;(try (rw [drewN_self w73];generalize hq_ : World.drewN w73 _ = w73;have n0_ : Aside0 (Kd.V (Kd.int .u32) 32 w73 w.heap.size (fun k_=>((P0_ k_∨P1_ k_∨P2_ k_)∨w.heap.size≤k_)) (.slice Ao48 t465.length co48) t465):=⟨by rw [← hq_];exact(by refine zV ?_;exact Kd.V_mono HO467.out (fun _ hk=>by first | exact hk.1.1.1.1.1.1.1.1 | exact hk | exact zD hk))⟩;have n1_ : Aside0 (Kd.V (Kd.int .u32) 32 w73 w.heap.size (fun k_=>((P0_ k_∨P1_ k_∨P2_ k_)∨w.heap.size≤k_)) (.slice Ao54 t471.length co54) t471):=⟨by rw [← hq_];exact(by refine zV ?_;exact Kd.V_mono HO473.out (fun _ hk=>by first | exact hk.1.1.1.1.1.1.1 | exact hk | exact zD hk))⟩;have n2_ : Aside0 (Kd.V (Kd.int .u32) 32 w73 w.heap.size (fun k_=>((P0_ k_∨P1_ k_∨P2_ k_)∨w.heap.size≤k_)) (.slice Ao74 t504.length co74) t504):=⟨by rw [← hq_];exact(by refine zV ?_;exact Kd.V_mono HO506.out (fun _ hk=>by first | exact hk.1.1 | exact hk | exact zD hk))⟩;have n3_ : Aside0 (Kd.V (Kd.int .u32) 32 w73 w.heap.size (fun k_=>((P0_ k_∨P1_ k_∨P2_ k_)∨w.heap.size≤k_)) (.slice Ao75 t510.length co75) t510):=⟨by rw [← hq_];exact(by refine zV ?_;exact Kd.V_mono HO512.out (fun _ hk=>hk.1))⟩;have n4_ : Aside0 (Kd.V (Kd.int .u32) 32 w73 w.heap.size (fun k_=>((P0_ k_∨P1_ k_∨P2_ k_)∨w.heap.size≤k_)) (.slice A0 l0.length c0) l0):=⟨by rw [← hq_];exact(by refine zV ?_;exact Kd.V_mono HO_0.out (fun _ hk=>by first | exact hk.1.1.1.1.1.1.1.1 | exact hk | exact zD hk))⟩;have n5_ : Aside0 (Kd.V (Kd.int .u32) 32 w73 w.heap.size (fun k_=>((P0_ k_∨P1_ k_∨P2_ k_)∨w.heap.size≤k_)) (.slice A1 l1.length c1) l1):=⟨by rw [← hq_];exact(by refine zV ?_;exact Kd.V_mono HO_1.out (fun _ hk=>by first | exact hk.1.1.1.1.1.1.1.1 | exact hk | exact zD hk))⟩;have n6_ : Aside0 (Kd.V (Kd.int .u32) 32 w73 w.heap.size (fun k_=>((P0_ k_∨P1_ k_∨P2_ k_)∨w.heap.size≤k_)) (.slice A2 l2.length c2) l2):=⟨by rw [← hq_];exact(by refine zV ?_;exact Kd.V_mono HO_2.out (fun _ hk=>by first | exact hk.1.1.1.1.1.1.1.1 | exact hk | exact zD hk))⟩;have n7_ : Aside0 (Below w.heap.size w w73):=⟨by rw [← hq_];exact zb⟩;clear HO467 HO473 HO506 HO512 HO_0 HO_1 HO_2 HB hq_;have HO467:=n0_;have HO473:=n1_;have HO506:=n2_;have HO512:=n3_;have HO_0:=n4_;have HO_1:=n5_;have HO_2:=n6_;have HB:=n7_;clear n0_ n1_ n2_ n3_ n4_ n5_ n6_ n7_));clear HO506 HO512) |((with_reducible refine gate_dst (N:=77) rfl ?_);(try (refine gate_guard (by rfl) ?_;dsimp only));refine Kd.N_lit (Kd.slice 32 (Kd.int .u32)) _ 26 ?hg (N':=77) ?hd (xs:=([l2,t465] : List (List Int))) (inner:=[.slice A2 l2.length c2,.slice Ao48 t465.length co48]) (ok:=(fun k_=>((P0_ k_∨P1_ k_∨P2_ k_)∨w.heap.size≤k_))) (okp:=(fun k_=>((P0_ k_∨P1_ k_∨P2_ k_)∨w.heap.size≤k_))) ?hr ?hp (fun _ hk=>hk) ((show ∀ k_,w73.heap.size≤k_→(fun k_=>((P0_ k_∨P1_ k_∨P2_ k_)∨w.heap.size≤k_)) k_ from fun k_ hk=>(.inr (Nat.le_trans (below_size zb) hk))) _ (Nat.le_refl _)) (Below.refl _ _) (Nat.le_refl _) (by simp) ?_;(case hd=>rfl);(case hg=>rfl);(case hr=>exact zh);(case hp=>exact(Reps.one (show Kd.FK (Kd.slice 32 (Kd.int .u32)) _ _ l2 [.slice A2 l2.length c2] from(Kd.FK_slice_mk (Kd.V_reads' (Kd.V_mono (ok':=(fun k_=>((P0_ k_∨P1_ k_∨P2_ k_)∨w.heap.size≤k_))) ((by first |(with_reducible exact HO_2.out) |(refine zV ?_;exact HO_2.out))) (fun k_ hk=>by first | exact hk.1.1.1.1.1.1.1.1 | exact hk | exact zD hk))).2.1 (Kd.V_F (Kd.V_mono (ok':=(fun k_=>((P0_ k_∨P1_ k_∨P2_ k_)∨w.heap.size≤k_))) ((by first |(with_reducible exact HO_2.out) |(refine zV ?_;exact HO_2.out))) (fun k_ hk=>by first | exact hk.1.1.1.1.1.1.1.1 | exact hk | exact zD hk))))) (Reps.one (show Kd.FK (Kd.slice 32 (Kd.int .u32)) _ _ t465 [.slice Ao48 t465.length co48] from(Kd.FK_slice_mk (Kd.V_reads' (Kd.V_mono (ok':=(fun k_=>((P0_ k_∨P1_ k_∨P2_ k_)∨w.heap.size≤k_))) ((by first |(with_reducible exact HO467.out) |(refine zV ?_;exact HO467.out))) (fun k_ hk=>by first | exact hk.1.1.1.1.1.1.1.1 | exact hk | exact zD hk))).2.1 (Kd.V_F (Kd.V_mono (ok':=(fun k_=>((P0_ k_∨P1_ k_∨P2_ k_)∨w.heap.size≤k_))) ((by first |(with_reducible exact HO467.out) |(refine zV ?_;exact HO467.out))) (fun k_ hk=>by first | exact hk.1.1.1.1.1.1.1.1 | exact hk | exact zD hk))))) (Reps.none _ _))));intro v515 w76 ho77 hb hg_ hnew_;clear hg_ hnew_;(first | rw [← Ny514.out] at ho77 |(simp only [Int.reduceToNat] at ho77;rw [← Ny514.out] at ho77));replace HO_0:=ve HO_0 (Kd.N_base ho77) hb;replace HO_1:=ve HO_1 (Kd.N_base ho77) hb;replace HO_2:=ve HO_2 (Kd.N_base ho77) hb;replace HO467:=ve HO467 (Kd.N_base ho77) hb;replace HO473:=ve HO473 (Kd.N_base ho77) hb;have HO516:=am (Kd.N_lower ho77 (below_size zb));replace HB:=am (below_step zb hb);clear hb ho77;obtain⟨Ao78,co78,eo78⟩:=Kd.N_slice HO516.out;subst eo78) |(go_at_call 13;(with_reducible refine(nat_Mul.calls kj8 _ _ y514 t517 _ ?side1 ?side2 A30.out).mono ?_);(case side1=>exact zC (Kd.N_reads' HO516.out).2.2);(case side2=>exact(Kd.N_reads' HO516.out).2.1);rintro e w79 ⟨v518,rfl,ho0,hb⟩;replace HO_0:=vb HO_0 hb;replace HO_1:=vb HO_1 hb;replace HO_2:=vb HO_2 hb;replace HO467:=vb HO467 hb;replace HO473:=vb HO473 hb;have HO519:=am (Kd.V_lower (Kd.V_mono (ok':=fun k_=>((P0_ k_∨P1_ k_∨P2_ k_)∨w.heap.size≤k_)∧some k_≠(.slice Ao78 y514.length co78 : Value).ownBlock) ho0 (fun k_ hk_=>⟨(.inr (Nat.le_trans (below_size zb) hk_)),(Kd.fresh' (Kd.N_lt (zN HO516.out)) k_ hk_)⟩)) (below_size zb));replace HO516:=nb HO516 hb;replace HB:=am (below_step zb hb);(try clear hb);(try clear ho0);clear HO516) |((with_reducible refine gate_dst (N:=81) rfl ?_);(try (refine gate_guard (by rfl) ?_;dsimp only));refine Kd.N_lit (Kd.slice 32 (Kd.int .u32)) _ 26 ?hg (N':=81) ?hd (xs:=([l2,l0] : List (List Int))) (inner:=[.slice A2 l2.length c2,.slice A0 l0.length c0]) (ok:=(fun k_=>((P0_ k_∨P1_ k_∨P2_ k_)∨w.heap.size≤k_))) (okp:=(fun k_=>((P0_ k_∨P1_ k_∨P2_ k_)∨w.heap.size≤k_))) ?hr ?hp (fun _ hk=>hk) ((show ∀ k_,w79.heap.size≤k_→(fun k_=>((P0_ k_∨P1_ k_∨P2_ k_)∨w.heap.size≤k_)) k_ from fun k_ hk=>(.inr (Nat.le_trans (below_size zb) hk))) _ (Nat.le_refl _)) (Below.refl _ _) (Nat.le_refl _) (by simp) ?_;(case hd=>rfl);(case hg=>rfl);(case hr=>exact zh);(case hp=>exact(Reps.one (show Kd.FK (Kd.slice 32 (Kd.int .u32)) _ _ l2 [.slice A2 l2.length c2] from(Kd.FK_slice_mk (Kd.V_reads' (Kd.V_mono (ok':=(fun k_=>((P0_ k_∨P1_ k_∨P2_ k_)∨w.heap.size≤k_))) ((by first |(with_reducible exact HO_2.out) |(refine zV ?_;exact HO_2.out))) (fun k_ hk=>by first | exact hk.1.1.1.1.1.1.1.1.1 | exact hk | exact zD hk))).2.1 (Kd.V_F (Kd.V_mono (ok':=(fun k_=>((P0_ k_∨P1_ k_∨P2_ k_)∨w.heap.size≤k_))) ((by first |(with_reducible exact HO_2.out) |(refine zV ?_;exact HO_2.out))) (fun k_ hk=>by first | exact hk.1.1.1.1.1.1.1.1.1 | exact hk | exact zD hk))))) (Reps.one (show Kd.FK (Kd.slice 32 (Kd.int .u32)) _ _ l0 [.slice A0 l0.length c0] from(Kd.FK_slice_mk (Kd.V_reads' (Kd.V_mono (ok':=(fun k_=>((P0_ k_∨P1_ k_∨P2_ k_)∨w.heap.size≤k_))) ((by first |(with_reducible exact HO_0.out) |(refine zV ?_;exact HO_0.out))) (fun k_ hk=>by first | exact hk.1.1.1.1.1.1.1.1.1 | exact hk | exact zD hk))).2.1 (Kd.V_F (Kd.V_mono (ok':=(fun k_=>((P0_ k_∨P1_ k_∨P2_ k_)∨w.heap.size≤k_))) ((by first |(with_reducible exact HO_0.out) |(refine zV ?_;exact HO_0.out))) (fun k_ hk=>by first | exact hk.1.1.1.1.1.1.1.1.1 | exact hk | exact zD hk))))) (Reps.none _ _))));intro v521 w80 ho81 hb hg_ hnew_;clear hg_ hnew_;(first | rw [← Ny520.out] at ho81 |(simp only [Int.reduceToNat] at ho81;rw [← Ny520.out] at ho81));replace HO_0:=ve HO_0 (Kd.N_base ho81) hb;replace HO_1:=ve HO_1 (Kd.N_base ho81) hb;replace HO_2:=ve HO_2 (Kd.N_base ho81) hb;replace HO467:=ve HO467 (Kd.N_base ho81) hb;replace HO473:=ve HO473 (Kd.N_base ho81) hb;replace HO519:=ve HO519 (Kd.N_base ho81) hb;have HO522:=am (Kd.N_lower ho81 (below_size zb));replace HB:=am (below_step zb hb);clear hb ho81;obtain⟨Ao82,co82,eo82⟩:=Kd.N_slice HO522.out;subst eo82) |(go_at_call 13;(with_reducible refine(nat_Mul.calls kj8 _ _ y520 t523 _ ?side1 ?side2 A31.out).mono ?_);(case side1=>exact zC (Kd.N_reads' HO522.out).2.2);(case side2=>exact(Kd.N_reads' HO522.out).2.1);rintro e w83 ⟨v524,rfl,ho0,hb⟩;replace HO_0:=vb HO_0 hb;replace HO_1:=vb HO_1 hb;replace HO_2:=vb HO_2 hb;replace HO467:=vb HO467 hb;replace HO473:=vb HO473 hb;replace HO519:=vb HO519 hb;have HO525:=am (Kd.V_lower (Kd.V_mono (ok':=fun k_=>((P0_ k_∨P1_ k_∨P2_ k_)∨w.heap.size≤k_)∧some k_≠(.slice Ao82 y520.length co82 : Value).ownBlock) ho0 (fun k_ hk_=>⟨(.inr (Nat.le_trans (below_size zb) hk_)),(Kd.fresh' (Kd.N_lt (zN HO522.out)) k_ hk_)⟩)) (below_size zb));replace HO522:=nb HO522 hb;replace HB:=am (below_step zb hb);(try clear hb);(try clear ho0);clear HO522) |((with_reducible refine gate_dst (N:=85) rfl ?_);(try (refine gate_guard (by rfl) ?_;dsimp only));refine Kd.N_lit (Kd.slice 32 (Kd.int .u32)) _ 26 ?hg (N':=85) ?hd (xs:=([l2,l1] : List (List Int))) (inner:=[.slice A2 l2.length c2,.slice A1 l1.length c1]) (ok:=(fun k_=>((P0_ k_∨P1_ k_∨P2_ k_)∨w.heap.size≤k_))) (okp:=(fun k_=>((P0_ k_∨P1_ k_∨P2_ k_)∨w.heap.size≤k_))) ?hr ?hp (fun _ hk=>hk) ((show ∀ k_,w83.heap.size≤k_→(fun k_=>((P0_ k_∨P1_ k_∨P2_ k_)∨w.heap.size≤k_)) k_ from fun k_ hk=>(.inr (Nat.le_trans (below_size zb) hk))) _ (Nat.le_refl _)) (Below.refl _ _) (Nat.le_refl _) (by simp) ?_;(case hd=>rfl);(case hg=>rfl);(case hr=>exact zh);(case hp=>exact(Reps.one (show Kd.FK (Kd.slice 32 (Kd.int .u32)) _ _ l2 [.slice A2 l2.length c2] from(Kd.FK_slice_mk (Kd.V_reads' (Kd.V_mono (ok':=(fun k_=>((P0_ k_∨P1_ k_∨P2_ k_)∨w.heap.size≤k_))) ((by first |(with_reducible exact HO_2.out) |(refine zV ?_;exact HO_2.out))) (fun k_ hk=>by first | exact hk.1.1.1.1.1.1.1.1.1.1 | exact hk | exact zD hk))).2.1 (Kd.V_F (Kd.V_mono (ok':=(fun k_=>((P0_ k_∨P1_ k_∨P2_ k_)∨w.heap.size≤k_))) ((by first |(with_reducible exact HO_2.out) |(refine zV ?_;exact HO_2.out))) (fun k_ hk=>by first | exact hk.1.1.1.1.1.1.1.1.1.1 | exact hk | exact zD hk))))) (Reps.one (show Kd.FK (Kd.slice 32 (Kd.int .u32)) _ _ l1 [.slice A1 l1.length c1] from(Kd.FK_slice_mk (Kd.V_reads' (Kd.V_mono (ok':=(fun k_=>((P0_ k_∨P1_ k_∨P2_ k_)∨w.heap.size≤k_))) ((by first |(with_reducible exact HO_1.out) |(refine zV ?_;exact HO_1.out))) (fun k_ hk=>by first | exact hk.1.1.1.1.1.1.1.1.1.1 | exact hk | exact zD hk))).2.1 (Kd.V_F (Kd.V_mono (ok':=(fun k_=>((P0_ k_∨P1_ k_∨P2_ k_)∨w.heap.size≤k_))) ((by first |(with_reducible exact HO_1.out) |(refine zV ?_;exact HO_1.out))) (fun k_ hk=>by first | exact hk.1.1.1.1.1.1.1.1.1.1 | exact hk | exact zD hk))))) (Reps.none _ _))));intro v527 w84 ho85 hb hg_ hnew_;clear hg_ hnew_;(first | rw [← Ny526.out] at ho85 |(simp only [Int.reduceToNat] at ho85;rw [← Ny526.out] at ho85));replace HO_0:=ve HO_0 (Kd.N_base ho85) hb;replace HO_1:=ve HO_1 (Kd.N_base ho85) hb;replace HO_2:=ve HO_2 (Kd.N_base ho85) hb;replace HO467:=ve HO467 (Kd.N_base ho85) hb;replace HO473:=ve HO473 (Kd.N_base ho85) hb;replace HO519:=ve HO519 (Kd.N_base ho85) hb;replace HO525:=ve HO525 (Kd.N_base ho85) hb;have HO528:=am (Kd.N_lower ho85 (below_size zb));replace HB:=am (below_step zb hb);clear hb ho85;clear HO_2;obtain⟨Ao86,co86,eo86⟩:=Kd.N_slice HO528.out;subst eo86) |(go_at_call 13;(with_reducible refine(nat_Mul.calls kj8 _ _ y526 t529 _ ?side1 ?side2 A32.out).mono ?_);(case side1=>exact zC (Kd.N_reads' HO528.out).2.2);(case side2=>exact(Kd.N_reads' HO528.out).2.1);rintro e w87 ⟨v530,rfl,ho0,hb⟩;replace HO_0:=vb HO_0 hb;replace HO_1:=vb HO_1 hb;replace HO467:=vb HO467 hb;replace HO473:=vb HO473 hb;replace HO519:=vb HO519 hb;replace HO525:=vb HO525 hb;have HO531:=am (Kd.V_lower (Kd.V_mono (ok':=fun k_=>((P0_ k_∨P1_ k_∨P2_ k_)∨w.heap.size≤k_)∧some k_≠(.slice Ao86 y526.length co86 : Value).ownBlock) ho0 (fun k_ hk_=>⟨(.inr (Nat.le_trans (below_size zb) hk_)),(Kd.fresh' (Kd.N_lt (zN HO528.out)) k_ hk_)⟩)) (below_size zb));replace HO528:=nb HO528 hb;replace HB:=am (below_step zb hb);(try clear hb);(try clear ho0);clear HO528;obtain⟨Ao88,co88,eo88⟩:=Kd.V_slice HO525.out;subst eo88;obtain⟨Ao89,co89,eo89⟩:=Kd.V_slice HO531.out;subst eo89) |((with_reducible refine gate_dst (N:=87) rfl ?_);(try (refine gate_guard (by rfl) ?_;dsimp only));refine Kd.N_lit (Kd.slice 32 (Kd.int .u32)) _ 26 ?hg (N':=87) ?hd (xs:=([t523,t529] : List (List Int))) (inner:=[.slice Ao88 t523.length co88,.slice Ao89 t529.length co89]) (ok:=(fun k_=>((P0_ k_∨P1_ k_∨P2_ k_)∨w.heap.size≤k_))) (okp:=(fun k_=>((P0_ k_∨P1_ k_∨P2_ k_)∨w.heap.size≤k_))) ?hr ?hp (fun _ hk=>hk) ((show ∀ k_,w87.heap.size≤k_→(fun k_=>((P0_ k_∨P1_ k_∨P2_ k_)∨w.heap.size≤k_)) k_ from fun k_ hk=>(.inr (Nat.le_trans (below_size zb) hk))) _ (Nat.le_refl _)) (Below.refl _ _) (Nat.le_refl _) (by simp) ?_;(case hd=>rfl);(case hg=>rfl);(case hr=>exact zh);(case hp=>exact(Reps.one (show Kd.FK (Kd.slice 32 (Kd.int .u32)) _ _ t523 [.slice Ao88 t523.length co88] from(Kd.FK_slice_mk (Kd.V_reads' (Kd.V_mono (ok':=(fun k_=>((P0_ k_∨P1_ k_∨P2_ k_)∨w.heap.size≤k_))) ((by first |(with_reducible exact HO525.out) |(refine zV ?_;exact HO525.out))) (fun k_ hk=>by first | exact hk.1.1 | exact hk | exact zD hk))).2.1 (Kd.V_F (Kd.V_mono (ok':=(fun k_=>((P0_ k_∨P1_ k_∨P2_ k_)∨w.heap.size≤k_))) ((by first |(with_reducible exact HO525.out) |(refine zV ?_;exact HO525.out))) (fun k_ hk=>by first | exact hk.1.1 | exact hk | exact zD hk))))) (Reps.one (show Kd.FK (Kd.slice 32 (Kd.int .u32)) _ _ t529 [.slice Ao89 t529.length co89] from(Kd.FK_slice_mk (Kd.V_reads' (Kd.V_mono (ok':=(fun k_=>((P0_ k_∨P1_ k_∨P2_ k_)∨w.heap.size≤k_))) ((by first |(with_reducible exact HO531.out) |(refine zV ?_;exact HO531.out))) (fun k_ hk=>by first | exact hk.1 | exact hk | exact zD hk))).2.1 (Kd.V_F (Kd.V_mono (ok':=(fun k_=>((P0_ k_∨P1_ k_∨P2_ k_)∨w.heap.size≤k_))) ((by first |(with_reducible exact HO531.out) |(refine zV ?_;exact HO531.out))) (fun k_ hk=>by first | exact hk.1 | exact hk | exact zD hk))))) (Reps.none _ _))));intro v533 w90 ho91 hb hg_ hnew_;clear hg_ hnew_;(first | rw [← Ny532.out] at ho91 |(simp only [Int.reduceToNat] at ho91;rw [← Ny532.out] at ho91));replace HO_0:=ve HO_0 (Kd.N_base ho91) hb;replace HO_1:=ve HO_1 (Kd.N_base ho91) hb;replace HO467:=ve HO467 (Kd.N_base ho91) hb;replace HO473:=ve HO473 (Kd.N_base ho91) hb;replace HO519:=ve HO519 (Kd.N_base ho91) hb;replace HO525:=ve HO525 (Kd.N_base ho91) hb;replace HO531:=ve HO531 (Kd.N_base ho91) hb;have HO534:=am (Kd.N_lower ho91 (below_size zb));replace HB:=am (below_step zb hb);clear hb ho91;clear HO525 HO531;obtain⟨Ao92,co92,eo92⟩:=Kd.N_slice HO534.out;subst eo92) |(go_at_call 11;(with_reducible refine(nat_Add.calls kj8 _ _ y532 t535 _ ?side1 ?side2 A33.out).mono ?_);(case side1=>exact zC (Kd.N_reads' HO534.out).2.2);(case side2=>exact(Kd.N_reads' HO534.out).2.1);rintro e w93 ⟨v536,rfl,ho0,hb⟩;replace HO_0:=vb HO_0 hb;replace HO_1:=vb HO_1 hb;replace HO467:=vb HO467 hb;replace HO473:=vb HO473 hb;replace HO519:=vb HO519 hb;have HO537:=am (Kd.V_lower (Kd.V_mono (ok':=fun k_=>((P0_ k_∨P1_ k_∨P2_ k_)∨w.heap.size≤k_)∧some k_≠(.slice Ao92 y532.length co92 : Value).ownBlock) ho0 (fun k_ hk_=>⟨(.inr (Nat.le_trans (below_size zb) hk_)),(Kd.fresh' (Kd.N_lt (zN HO534.out)) k_ hk_)⟩)) (below_size zb));replace HO534:=nb HO534 hb;replace HB:=am (below_step zb hb);(try clear hb);(try clear ho0);clear HO534;obtain⟨Ao94,co94,eo94⟩:=Kd.V_slice HO519.out;subst eo94;obtain⟨Ao95,co95,eo95⟩:=Kd.V_slice HO537.out;subst eo95) |(go_at_call 10;(with_reducible refine(whetstonelaw01_same.calls kj8 _ _ t517 _ _ t535 t538 _ ?side1 ?side2 ?side3 ?side4 A34.out).mono ?_);(case side1=>exact zC (Kd.V_reads' HO519.out).2.2);(case side2=>exact(Kd.V_reads' HO519.out).2.1);(case side3=>exact zC (Kd.V_reads' HO537.out).2.2);(case side4=>exact(Kd.V_reads' HO537.out).2.1);rintro e w' ⟨rfl,⟨nd,rfl⟩⟩))
         (try simp only [Act.put,sA,sZ,sS])
         go_cut [] (fun wc=>∃ (kq : Nat),Aside0 (whetstonelaw01_NatRing.j2 kq l0 l1 t465 t471 = some r)∧Aside0 (kq≤kj8)∧Aside0 (Kd.V (Kd.int .u32) 32 wc w.heap.size (fun k_=>((P0_ k_∨P1_ k_∨P2_ k_)∨w.heap.size≤k_)) (.slice A0 l0.length c0) l0)∧Aside0 (Kd.V (Kd.int .u32) 32 wc w.heap.size (fun k_=>((P0_ k_∨P1_ k_∨P2_ k_)∨w.heap.size≤k_)) (.slice A1 l1.length c1) l1)∧Aside0 (Kd.V (Kd.int .u32) 32 wc w.heap.size (fun k_=>((P0_ k_∨P1_ k_∨P2_ k_)∨w.heap.size≤k_)) (.slice Ao48 t465.length co48) t465)∧Aside0 (Kd.V (Kd.int .u32) 32 wc w.heap.size (fun k_=>((P0_ k_∨P1_ k_∨P2_ k_)∨w.heap.size≤k_)) (.slice Ao54 t471.length co54) t471)∧Aside0 (Below w.heap.size w wc))
         case first=>
          have H:=HC35.out
          clear HC35
          by_cases c96 : t538 = true
          ·subst c96
           have H1 : (whetstonelaw01_NatRing.j2 kj8 l0 l1 t465 t471) = some r:=by rw [if_pos rfl] at H;exact H
           clear H
           have H:=H1
           clear H1
           have H':=am H
           clear H
           go_wp2
           go_meet
           case rel=>exact⟨_,H',⟨by have:=HJ4.out;have:=HJ8.out;first | omega | exact Nat.le_refl _⟩,⟨by refine zV ?_;exact Kd.V_mono HO_0.out (fun _ hk=>by first | exact hk.1.1.1.1.1.1.1.1.1.1.1.1 | exact hk | exact zD hk)⟩,⟨by refine zV ?_;exact Kd.V_mono HO_1.out (fun _ hk=>by first | exact hk.1.1.1.1.1.1.1.1.1.1.1.1 | exact hk | exact zD hk)⟩,⟨by refine zV ?_;exact Kd.V_mono HO467.out (fun _ hk=>by first | exact hk.1.1.1.1.1.1.1.1.1.1.1.1 | exact hk | exact zD hk)⟩,⟨by refine zV ?_;exact Kd.V_mono HO473.out (fun _ hk=>by first | exact hk.1.1.1.1.1.1.1.1.1.1.1 | exact hk | exact zD hk)⟩,⟨zb⟩⟩
          ·replace c96:=Bool.eq_false_iff.mpr c96
           subst c96
           have H1 : (some false) = some r:=by rw [if_neg (show ¬ (false = true) by decide)] at H;exact H
           clear H
           have H:=H1
           clear H1
           exact absurd ((Option.some.inj H).trans HRT.out) (by decide)
         case rest=>
          clear HC35
          try clear c1
          try clear c2
          try clear p2
          try clear c4
          try clear c7
          try clear c8
          try clear c9
          try clear c10
          try clear c11
          try clear c13
          try clear c18
          try clear c21
          try clear c25
          try clear c29
          try clear c96
          try clear p2
          obtain⟨kq,HA,HJ34,HO_0,HO_1,HO_7,HO_8,HB⟩:=hcut
          cases kq with
          | zero=>exact absurd HA.out (by simp [whetstonelaw01_NatRing.j2])
          | succ kj34=>
           have H:=HA.out
           clear HA
           simp only [whetstonelaw01_NatRing.j2] at H
           replace H:=Option.bind_eq_some_iff.mp H
           obtain⟨⟨t539,t542⟩,A970,H⟩:=H
           try dsimp only at H
           have A97:=am A970
           clear A970
           obtain⟨y543,hy543⟩ : ∃ y_ : List Int,y_ = (([1] : List Int)):=⟨_,rfl⟩
           replace H : ((nat_Add.f kj34 (([l1,y543] : List (List Int)))).bind fun t549=>((nat_Sub.f kj34 l1 t549).bind fun bt552=>(if t542 = true then(if bt552.2 = true then(some false) else((nat_Trim.f kj34 l0).bind fun t556=>((whetstonelaw01_same.f kj34 t539 t556).bind fun t559=>(if t559 = true then((nat_Right.f kj34 t465).bind fun t560=>(if t560 = true then((nat_Right.f kj34 t471).bind fun t561=>(if t561 = true then((nat_Right.f kj34 t539).bind fun t562=>(if t562 = true then(whetstonelaw01_NatRing.j3 kj34 l0 l1) else(some false))) else(some false))) else(some false))) else(some false))))) else(some false)))) = some r:=by first |(rw [hy543];with_reducible exact H) |(have H2_:=(Option.bind_some _ _).symm.trans H;rw [hy543];with_reducible exact H2_) |(have H2_:=(Option.bind_some _ _).symm.trans H;with_reducible exact H2_) | with_reducible exact H |(rw [hy543];exact H) | exact H
           have Ny543:=am hy543
           clear hy543
           obtain⟨y546,hy546⟩ : ∃ y_ : List (List Int),y_ = (([l1,y543] : List (List Int))):=⟨_,rfl⟩
           replace H : ((nat_Add.f kj34 y546).bind fun t549=>((nat_Sub.f kj34 l1 t549).bind fun bt552=>(if t542 = true then(if bt552.2 = true then(some false) else((nat_Trim.f kj34 l0).bind fun t556=>((whetstonelaw01_same.f kj34 t539 t556).bind fun t559=>(if t559 = true then((nat_Right.f kj34 t465).bind fun t560=>(if t560 = true then((nat_Right.f kj34 t471).bind fun t561=>(if t561 = true then((nat_Right.f kj34 t539).bind fun t562=>(if t562 = true then(whetstonelaw01_NatRing.j3 kj34 l0 l1) else(some false))) else(some false))) else(some false))) else(some false))))) else(some false)))) = some r:=by first |(rw [hy546];with_reducible exact H) |(have H2_:=(Option.bind_some _ _).symm.trans H;rw [hy546];with_reducible exact H2_) |(have H2_:=(Option.bind_some _ _).symm.trans H;with_reducible exact H2_) | with_reducible exact H |(rw [hy546];exact H) | exact H
           have Ny546:=am hy546
           clear hy546
           replace H:=Option.bind_eq_some_iff.mp H
           obtain⟨t549,A980,H⟩:=H
           try dsimp only at H
           have A98:=am A980
           clear A980
           replace H:=Option.bind_eq_some_iff.mp H
           obtain⟨⟨t552,t555⟩,A990,H⟩:=H
           try dsimp only at H
           have A99:=am A990
           clear A990
           by_cases c100 : t542 = true
           ·subst c100
            have H1 : (if t555 = true then(some false) else((nat_Trim.f kj34 l0).bind fun t556=>((whetstonelaw01_same.f kj34 t539 t556).bind fun t559=>(if t559 = true then((nat_Right.f kj34 t465).bind fun t560=>(if t560 = true then((nat_Right.f kj34 t471).bind fun t561=>(if t561 = true then((nat_Right.f kj34 t539).bind fun t562=>(if t562 = true then(whetstonelaw01_NatRing.j3 kj34 l0 l1) else(some false))) else(some false))) else(some false))) else(some false))))) = some r:=by rw [if_pos rfl] at H;exact H
            clear H
            have H:=H1
            clear H1
            by_cases c101 : t555 = true
            ·subst c101
             have H1 : (some false) = some r:=by rw [if_pos rfl] at H;exact H
             clear H
             have H:=H1
             clear H1
             exact absurd ((Option.some.inj H).trans HRT.out) (by decide)
            ·replace c101:=Bool.eq_false_iff.mpr c101
             subst c101
             have H1 : ((nat_Trim.f kj34 l0).bind fun t556=>((whetstonelaw01_same.f kj34 t539 t556).bind fun t559=>(if t559 = true then((nat_Right.f kj34 t465).bind fun t560=>(if t560 = true then((nat_Right.f kj34 t471).bind fun t561=>(if t561 = true then((nat_Right.f kj34 t539).bind fun t562=>(if t562 = true then(whetstonelaw01_NatRing.j3 kj34 l0 l1) else(some false))) else(some false))) else(some false))) else(some false)))) = some r:=by rw [if_neg (show ¬ (false = true) by decide)] at H;exact H
             clear H
             have H:=H1
             clear H1
             replace H:=Option.bind_eq_some_iff.mp H
             obtain⟨t556,A1020,H⟩:=H
             try dsimp only at H
             have A102:=am A1020
             clear A1020
             replace H:=Option.bind_eq_some_iff.mp H
             obtain⟨t559,A1030,H⟩:=H
             try dsimp only at H
             have A103:=am A1030
             clear A1030
             by_cases c104 : t559 = true
             ·subst c104
              have H1 : ((nat_Right.f kj34 t465).bind fun t560=>(if t560 = true then((nat_Right.f kj34 t471).bind fun t561=>(if t561 = true then((nat_Right.f kj34 t539).bind fun t562=>(if t562 = true then(whetstonelaw01_NatRing.j3 kj34 l0 l1) else(some false))) else(some false))) else(some false))) = some r:=by rw [if_pos rfl] at H;exact H
              clear H
              have H:=H1
              clear H1
              replace H:=Option.bind_eq_some_iff.mp H
              obtain⟨t560,A1050,H⟩:=H
              try dsimp only at H
              have A105:=am A1050
              clear A1050
              by_cases c106 : t560 = true
              ·subst c106
               have H1 : ((nat_Right.f kj34 t471).bind fun t561=>(if t561 = true then((nat_Right.f kj34 t539).bind fun t562=>(if t562 = true then(whetstonelaw01_NatRing.j3 kj34 l0 l1) else(some false))) else(some false))) = some r:=by rw [if_pos rfl] at H;exact H
               clear H
               have H:=H1
               clear H1
               replace H:=Option.bind_eq_some_iff.mp H
               obtain⟨t561,A1070,H⟩:=H
               try dsimp only at H
               have A107:=am A1070
               clear A1070
               by_cases c108 : t561 = true
               ·subst c108
                have H1 : ((nat_Right.f kj34 t539).bind fun t562=>(if t562 = true then(whetstonelaw01_NatRing.j3 kj34 l0 l1) else(some false))) = some r:=by rw [if_pos rfl] at H;exact H
                clear H
                have H:=H1
                clear H1
                replace H:=Option.bind_eq_some_iff.mp H
                obtain⟨t562,A1090,H⟩:=H
                try dsimp only at H
                have A109:=am A1090
                clear A1090
                have HC110:=am H
                clear H
                go_upto_if 133 with(first |((with_reducible refine gate_callee (f:=15) rfl ?_);refine goesL_ (some 95) rfl rfl Tryd.func15 (by kernel_rfl) rfl #[.slice Ao48 t465.length co48,.slice A1 l1.length c1] rfl zl ?_;(with_reducible refine(nat_Sub.calls kj34 _ _ t465 _ _ l1 t539 true _ ?side1 ?side2 ?side3 ?side4 A97.out).mono ?_);(case side1=>exact zC (Kd.V_reads' HO_7.out).2.2);(case side2=>exact(Kd.V_reads' HO_7.out).2.1);(case side3=>exact zC (Kd.V_reads' HO_1.out).2.2);(case side4=>exact(Kd.V_reads' HO_1.out).2.1);rintro e w111 ⟨v540,rfl,ho0,hb⟩;refine⟨_,rfl,?_⟩;replace HO_0:=vb HO_0 hb;replace HO_1:=vb HO_1 hb;replace HO_7:=vb HO_7 hb;replace HO_8:=vb HO_8 hb;have HO541:=am (Kd.V_lower (Kd.V_mono (ok':=fun k_=>((P0_ k_∨P1_ k_∨P2_ k_)∨w.heap.size≤k_)) ho0 (fun k_ hk_=>(.inr (Nat.le_trans (below_size zb) hk_)))) (below_size zb));replace HB:=am (below_step zb hb);(try clear hb);(try clear ho0)) |((with_reducible refine gate_dst (N:=101) rfl ?_);(try (refine gate_guard (by rfl) ?_;dsimp only));refine Kd.R_lit (Kd.int .u32) _ 32 ?hg (N:=101) ?hd (xs:=([1] : List Int)) (inner:=[.int .u32 1]) (ok:=fun _=>True) (okp:=fun _=>True) ?hr ?hp (fun _ hk=>hk) trivial (Below.refl _ _) (Nat.le_refl _) (by simp) ?_;(case hd=>rfl);(case hg=>rfl);(case hr=>exact zh);(case hp=>exact(Reps.one (show Kd.M (Kd.int .u32) _ _ _ 1 [.int .u32 1] from rfl) (Reps.none _ _)));intro v544 w112 ho113 hb hg_ hnew_;clear hg_ hnew_;(first | rw [← Ny543.out] at ho113 |(simp only [Int.reduceToNat] at ho113;rw [← Ny543.out] at ho113));replace HO_0:=ve HO_0 (Kd.R_base ho113) hb;replace HO_1:=ve HO_1 (Kd.R_base ho113) hb;replace HO_7:=ve HO_7 (Kd.R_base ho113) hb;replace HO_8:=ve HO_8 (Kd.R_base ho113) hb;replace HO541:=ve HO541 (Kd.R_base ho113) hb;have HO545:=am (Kd.R_lower (Kd.R_newM (M:=fun k_=>(w.heap.size≤k_)) ho113 (below_size zb) (fun k_ h_=>h_)) (below_size zb));replace HB:=am (below_step zb hb);clear hb ho113;obtain⟨Ao114,co114,eo114⟩:=Kd.R_slice HO545.out;subst eo114) |((with_reducible refine gate_dst (N:=102) rfl ?_);(try (refine gate_guard (by rfl) ?_;dsimp only));refine Kd.N_lit (Kd.slice 32 (Kd.int .u32)) _ 26 ?hg (N':=102) ?hd (xs:=([l1,y543] : List (List Int))) (inner:=[.slice A1 l1.length c1,.slice Ao114 y543.length co114]) (ok:=(fun k_=>((P0_ k_∨P1_ k_∨P2_ k_)∨w.heap.size≤k_))) (okp:=(fun k_=>((P0_ k_∨P1_ k_∨P2_ k_)∨w.heap.size≤k_))) ?hr ?hp (fun _ hk=>hk) ((show ∀ k_,w112.heap.size≤k_→(fun k_=>((P0_ k_∨P1_ k_∨P2_ k_)∨w.heap.size≤k_)) k_ from fun k_ hk=>(.inr (Nat.le_trans (below_size zb) hk))) _ (Nat.le_refl _)) (Below.refl _ _) (Nat.le_refl _) (by simp) ?_;(case hd=>rfl);(case hg=>rfl);(case hr=>exact zh);(case hp=>exact(Reps.one (show Kd.FK (Kd.slice 32 (Kd.int .u32)) _ _ l1 [.slice A1 l1.length c1] from(Kd.FK_slice_mk (Kd.V_reads' (Kd.V_mono (ok':=(fun k_=>((P0_ k_∨P1_ k_∨P2_ k_)∨w.heap.size≤k_))) ((by first |(with_reducible exact HO_1.out) |(refine zV ?_;exact HO_1.out))) (fun k_ hk=>by first | exact hk.1 | exact hk | exact zD hk))).2.1 (Kd.V_F (Kd.V_mono (ok':=(fun k_=>((P0_ k_∨P1_ k_∨P2_ k_)∨w.heap.size≤k_))) ((by first |(with_reducible exact HO_1.out) |(refine zV ?_;exact HO_1.out))) (fun k_ hk=>by first | exact hk.1 | exact hk | exact zD hk))))) (Reps.one (show Kd.FK (Kd.slice 32 (Kd.int .u32)) _ _ y543 [.slice Ao114 y543.length co114] from(Kd.FK_slice_mk (Kd.R_reads' (Kd.R_mono (ok':=(fun k_=>((P0_ k_∨P1_ k_∨P2_ k_)∨w.heap.size≤k_))) (HO545.out) (fun k_ hk=>by first | exact(.inr (hk.1)) | exact hk | exact zD hk))).2.1 (Kd.R_F (Kd.R_mono (ok':=(fun k_=>((P0_ k_∨P1_ k_∨P2_ k_)∨w.heap.size≤k_))) (HO545.out) (fun k_ hk=>by first | exact(.inr (hk.1)) | exact hk | exact zD hk))))) (Reps.none _ _))));intro v547 w115 ho116 hb hg_ hnew_;clear hg_ hnew_;(first | rw [← Ny546.out] at ho116 |(simp only [Int.reduceToNat] at ho116;rw [← Ny546.out] at ho116));replace HO_0:=ve HO_0 (Kd.N_base ho116) hb;replace HO_1:=ve HO_1 (Kd.N_base ho116) hb;replace HO_7:=ve HO_7 (Kd.N_base ho116) hb;replace HO_8:=ve HO_8 (Kd.N_base ho116) hb;replace HO541:=ve HO541 (Kd.N_base ho116) hb;have HO548:=am (Kd.N_lower ho116 (below_size zb));replace HB:=am (below_step zb hb);clear HO545;clear hb ho116;obtain⟨Ao117,co117,eo117⟩:=Kd.N_slice HO548.out;subst eo117) |((with_reducible refine gate_callee (f:=11) rfl ?_);refine goesL_ (some 103) rfl rfl Tryd.func11 (by kernel_rfl) rfl #[.slice Ao117 y546.length co117] rfl zl ?_;(with_reducible refine(nat_Add.calls kj34 _ _ y546 t549 _ ?side1 ?side2 A98.out).mono ?_);(case side1=>exact zC (Kd.N_reads' HO548.out).2.2);(case side2=>exact(Kd.N_reads' HO548.out).2.1);rintro e w118 ⟨v550,rfl,ho0,hb⟩;refine⟨_,rfl,?_⟩;replace HO_0:=vb HO_0 hb;replace HO_1:=vb HO_1 hb;replace HO_7:=vb HO_7 hb;replace HO_8:=vb HO_8 hb;replace HO541:=vb HO541 hb;have HO551:=am (Kd.V_lower (Kd.V_mono (ok':=fun k_=>((P0_ k_∨P1_ k_∨P2_ k_)∨w.heap.size≤k_)∧some k_≠(.slice Ao117 y546.length co117 : Value).ownBlock) ho0 (fun k_ hk_=>⟨(.inr (Nat.le_trans (below_size zb) hk_)),(Kd.fresh' (Kd.N_lt (zN HO548.out)) k_ hk_)⟩)) (below_size zb));replace HO548:=nb HO548 hb;replace HB:=am (below_step zb hb);(try clear hb);(try clear ho0);clear HO548;obtain⟨Ao119,co119,eo119⟩:=Kd.V_slice HO551.out;subst eo119) |((with_reducible refine gate_callee (f:=15) rfl ?_);refine goesL_ (some 104) rfl rfl Tryd.func15 (by kernel_rfl) rfl #[.slice A1 l1.length c1,.slice Ao119 t549.length co119] rfl zl ?_;(with_reducible refine(nat_Sub.calls kj34 _ _ l1 _ _ t549 t552 false _ ?side1 ?side2 ?side3 ?side4 A99.out).mono ?_);(case side1=>exact zC (Kd.V_reads' HO_1.out).2.2);(case side2=>exact(Kd.V_reads' HO_1.out).2.1);(case side3=>exact zC (Kd.V_reads' HO551.out).2.2);(case side4=>exact(Kd.V_reads' HO551.out).2.1);rintro e w120 ⟨v553,rfl,ho0,hb⟩;refine⟨_,rfl,?_⟩;replace HO_0:=vb HO_0 hb;replace HO_1:=vb HO_1 hb;replace HO_7:=vb HO_7 hb;replace HO_8:=vb HO_8 hb;replace HO541:=vb HO541 hb;replace HO551:=vb HO551 hb;have HO554:=am (Kd.V_lower (Kd.V_mono (ok':=fun k_=>((P0_ k_∨P1_ k_∨P2_ k_)∨w.heap.size≤k_)) ho0 (fun k_ hk_=>(.inr (Nat.le_trans (below_size zb) hk_)))) (below_size zb));replace HB:=am (below_step zb hb);(try clear hb);(try clear ho0);clear HO551 HO554) |(go_at_call 16;(with_reducible refine(nat_Trim.calls kj34 _ _ l0 t556 _ ?side1 ?side2 A102.out).mono ?_);(case side1=>exact zC (Kd.V_reads' HO_0.out).2.2);(case side2=>exact(Kd.V_reads' HO_0.out).2.1);rintro e w121 ⟨v557,rfl,ho0,hb⟩;replace HO_0:=ve HO_0 (Kd.R_base ho0) hb;replace HO_1:=ve HO_1 (Kd.R_base ho0) hb;replace HO_7:=ve HO_7 (Kd.R_base ho0) hb;replace HO_8:=ve HO_8 (Kd.R_base ho0) hb;replace HO541:=ve HO541 (Kd.R_base ho0) hb;have HO558:=am (Kd.R_lower (Kd.R_newM (M:=fun k_=>(w.heap.size≤k_)) ho0 (below_size zb) (fun k_ h_=>h_)) (below_size zb));replace HB:=am (below_step zb hb);(try clear hb);(try clear ho0);obtain⟨Ao122,co122,eo122⟩:=Kd.V_slice HO541.out;subst eo122;obtain⟨Ao123,co123,eo123⟩:=Kd.R_slice HO558.out;subst eo123) |(go_at_call 10;(with_reducible refine(whetstonelaw01_same.calls kj34 _ _ t539 _ _ t556 true _ ?side1 ?side2 ?side3 ?side4 A103.out).mono ?_);(case side1=>exact zC (Kd.V_reads' HO541.out).2.2);(case side2=>exact(Kd.V_reads' HO541.out).2.1);(case side3=>exact zC (Kd.R_reads' HO558.out).2.2);(case side4=>exact(Kd.R_reads' HO558.out).2.1);rintro e w' ⟨rfl,⟨nd,rfl⟩⟩;clear HO558) |(go_at_call 17;(with_reducible refine(nat_Right.calls kj34 _ _ t465 true _ ?side1 ?side2 A105.out).mono ?_);(case side1=>exact zC (Kd.V_reads' HO_7.out).2.2);(case side2=>exact(Kd.V_reads' HO_7.out).2.1);rintro e w' ⟨rfl,⟨nd,rfl⟩⟩;clear HO_7) |(go_at_call 17;(with_reducible refine(nat_Right.calls kj34 _ _ t471 true _ ?side1 ?side2 A107.out).mono ?_);(case side1=>exact zC (Kd.V_reads' HO_8.out).2.2);(case side2=>exact(Kd.V_reads' HO_8.out).2.1);rintro e w' ⟨rfl,⟨nd,rfl⟩⟩;clear HO_8) |(go_at_call 17;(with_reducible refine(nat_Right.calls kj34 _ _ t539 t562 _ ?side1 ?side2 A109.out).mono ?_);(case side1=>exact zC (Kd.V_reads' HO541.out).2.2);(case side2=>exact(Kd.V_reads' HO541.out).2.1);rintro e w' ⟨rfl,⟨nd,rfl⟩⟩))
                (try simp only [Act.put,sA,sZ,sS])
                go_cut [] (fun wc=>∃ (kq : Nat),Aside0 (whetstonelaw01_NatRing.j3 kq l0 l1 = some r)∧Aside0 (kq≤kj34)∧Aside0 (Kd.V (Kd.int .u32) 32 wc w.heap.size (fun k_=>((P0_ k_∨P1_ k_∨P2_ k_)∨w.heap.size≤k_)) (.slice A0 l0.length c0) l0)∧Aside0 (Kd.V (Kd.int .u32) 32 wc w.heap.size (fun k_=>((P0_ k_∨P1_ k_∨P2_ k_)∨w.heap.size≤k_)) (.slice A1 l1.length c1) l1)∧Aside0 (Below w.heap.size w wc))
                case first=>
                 have H:=HC110.out
                 clear HC110
                 by_cases c124 : t562 = true
                 ·subst c124
                  have H1 : (whetstonelaw01_NatRing.j3 kj34 l0 l1) = some r:=by rw [if_pos rfl] at H;exact H
                  clear H
                  have H:=H1
                  clear H1
                  have H':=am H
                  clear H
                  go_wp2
                  go_meet
                  case rel=>exact⟨_,H',⟨by have:=HJ4.out;have:=HJ8.out;have:=HJ34.out;first | omega | exact Nat.le_refl _⟩,⟨by refine zV ?_;exact Kd.V_mono HO_0.out (fun _ hk=>by first | exact hk.1.1.1 | exact hk | exact zD hk)⟩,⟨by refine zV ?_;exact Kd.V_mono HO_1.out (fun _ hk=>by first | exact hk.1.1.1 | exact hk | exact zD hk)⟩,⟨zb⟩⟩
                 ·replace c124:=Bool.eq_false_iff.mpr c124
                  subst c124
                  have H1 : (some false) = some r:=by rw [if_neg (show ¬ (false = true) by decide)] at H;exact H
                  clear H
                  have H:=H1
                  clear H1
                  exact absurd ((Option.some.inj H).trans HRT.out) (by decide)
                case rest=>
                 clear HC110
                 try clear c1
                 try clear c2
                 try clear p2
                 try clear c4
                 try clear c7
                 try clear c8
                 try clear c9
                 try clear c10
                 try clear c11
                 try clear c12
                 try clear c13
                 try clear c15
                 try clear c18
                 try clear c21
                 try clear c25
                 try clear c29
                 try clear c96
                 try clear c100
                 try clear c101
                 try clear c104
                 try clear c106
                 try clear c108
                 try clear c124
                 try clear p2
                 obtain⟨kq,HA,HJ109,HO_0,HO_1,HB⟩:=hcut
                 cases kq with
                 | zero=>exact absurd HA.out (by simp [whetstonelaw01_NatRing.j3])
                 | succ kj109=>
                  have H:=HA.out
                  clear HA
                  simp only [whetstonelaw01_NatRing.j3] at H
                  replace H:=Option.bind_eq_some_iff.mp H
                  obtain⟨⟨t563,t566,t569⟩,A1250,H⟩:=H
                  try dsimp only at H
                  have A125:=am A1250
                  clear A1250
                  have HC126:=am H
                  clear H
                  go_upto_if 142 with(first |((with_reducible refine gate_callee (f:=18) rfl ?_);refine goesL_ (some 137) rfl rfl Tryd.func18 (by kernel_rfl) rfl #[.slice A0 l0.length c0,.slice A1 l1.length c1] rfl zl ?_;(with_reducible refine(nat_DivMod.calls kj109 _ _ l0 _ _ l1 t563 t566 t569 _ ?side1 ?side2 ?side3 ?side4 A125.out).mono ?_);(case side1=>exact zC (Kd.V_reads' HO_0.out).2.2);(case side2=>exact(Kd.V_reads' HO_0.out).2.1);(case side3=>exact zC (Kd.V_reads' HO_1.out).2.2);(case side4=>exact(Kd.V_reads' HO_1.out).2.1);rintro e w127 ⟨v564,v567,rfl,ho0,ho1,hb⟩;refine⟨_,rfl,?_⟩;replace HO_0:=vb HO_0 hb;replace HO_1:=vb HO_1 hb;have HO565:=am (Kd.V_lower (Kd.V_mono (ok':=fun k_=>((P0_ k_∨P1_ k_∨P2_ k_)∨w.heap.size≤k_)) ho0 (fun k_ hk_=>(.inr (Nat.le_trans (below_size zb) hk_)))) (below_size zb));have HO568:=am (Kd.V_lower (Kd.V_mono (ok':=fun k_=>((P0_ k_∨P1_ k_∨P2_ k_)∨w.heap.size≤k_)) ho1 (fun k_ hk_=>(.inr (Nat.le_trans (below_size zb) hk_)))) (below_size zb));replace HB:=am (below_step zb hb);(try clear hb);(try clear ho0);(try clear ho1)))
                  (try simp only [Act.put,sA,sZ,sS])
                  go_cut [] (fun wc=>∃ (kq : Nat),Aside0 (whetstonelaw01_NatRing.j4 kq l0 l1 t563 t566 = some r)∧Aside0 (kq≤kj109)∧Aside0 (Kd.V (Kd.int .u32) 32 wc w.heap.size (fun k_=>((P0_ k_∨P1_ k_∨P2_ k_)∨w.heap.size≤k_)) (.slice A0 l0.length c0) l0)∧Aside0 (Kd.V (Kd.int .u32) 32 wc w.heap.size (fun k_=>((P0_ k_∨P1_ k_∨P2_ k_)∨w.heap.size≤k_)) (.slice A1 l1.length c1) l1)∧Aside0 (Kd.V (Kd.int .u32) 32 wc w.heap.size (fun k_=>((P0_ k_∨P1_ k_∨P2_ k_)∨w.heap.size≤k_)) v564 t563)∧Aside0 (Kd.V (Kd.int .u32) 32 wc w.heap.size (fun k_=>((P0_ k_∨P1_ k_∨P2_ k_)∨w.heap.size≤k_)) v567 t566)∧Aside0 (Below w.heap.size w wc))
                  case first=>
                   have H:=HC126.out
                   clear HC126
                   by_cases c128 : t569 = true
                   ·subst c128
                    have H1 : (whetstonelaw01_NatRing.j4 kj109 l0 l1 t563 t566) = some r:=by rw [if_pos rfl] at H;exact H
                    clear H
                    have H:=H1
                    clear H1
                    have H':=am H
                    clear H
                    go_wp2
                    go_meet
                    case rel=>exact⟨_,H',⟨by have:=HJ4.out;have:=HJ8.out;have:=HJ34.out;have:=HJ109.out;first | omega | exact Nat.le_refl _⟩,⟨zV HO_0.out⟩,⟨zV HO_1.out⟩,⟨zV HO565.out⟩,⟨zV HO568.out⟩,⟨zb⟩⟩
                   ·replace c128:=Bool.eq_false_iff.mpr c128
                    subst c128
                    have H1 : ((nat_Trim.f kj109 l1).bind fun t570=>(if (t570.length : Int) = 0 then(some ((wrap64 ((t563.length : Int) + (t566.length : Int))) == 0)) else(some false))) = some r:=by rw [if_neg (show ¬ (false = true) by decide)] at H;exact H
                    clear H
                    have H:=H1
                    clear H1
                    replace H:=Option.bind_eq_some_iff.mp H
                    obtain⟨t570,A1290,H⟩:=H
                    try dsimp only at H
                    have A129:=am A1290
                    clear A1290
                    by_cases c130 : (t570.length : Int) = 0
                    ·rw [if_pos c130] at H
                     have c130b0 : ((t570.length : Int) == 0) = true:=beq_iff_eq.mpr c130
                     have c130b1 : ((t570.length : Int) != 0) = false:=bne_eq_false_iff_eq.mpr c130
                     clear c130
                     (first | rw [c130b0] |(simp only [i64_w,i32_w];rw [c130b0]) | rw [c130b1] | skip)
                     obtain rfl:=Option.some.inj H
                     go_wp2_with (first |((with_reducible refine gate_callee (f:=16) rfl ?_);refine goesL_ (some 144) rfl rfl Tryd.func16 (by kernel_rfl) rfl #[.slice A1 l1.length c1] rfl zl ?_;(with_reducible refine(nat_Trim.calls kj109 _ _ l1 t570 _ ?side1 ?side2 A129.out).mono ?_);(case side1=>exact zC (Kd.V_reads' HO_1.out).2.2);(case side2=>exact(Kd.V_reads' HO_1.out).2.1);rintro e w131 ⟨v571,rfl,ho0,hb⟩;refine⟨_,rfl,?_⟩;replace HO_1:=ve HO_1 (Kd.R_base ho0) hb;replace HO565:=ve HO565 (Kd.R_base ho0) hb;replace HO568:=ve HO568 (Kd.R_base ho0) hb;have HO572:=am (Kd.R_lower (Kd.R_newM (M:=fun k_=>(w.heap.size≤k_)) ho0 (below_size zb) (fun k_ h_=>h_)) (below_size zb));replace HB:=am (below_step zb hb);(try clear hb);(try clear ho0);clear HO_1;obtain⟨Ao132,co132,eo132⟩:=Kd.R_slice HO572.out;subst eo132;clear HO572;obtain⟨Ao133,co133,eo133⟩:=Kd.V_slice HO565.out;subst eo133;clear HO565;obtain⟨Ao134,co134,eo134⟩:=Kd.V_slice HO568.out;subst eo134))
                     go_ret
                     exact⟨zf,zb⟩
                    ·rw [if_neg c130] at H
                     have c130b0 : ((t570.length : Int) == 0) = false:=beq_eq_false_iff_ne.mpr c130
                     have c130b1 : ((t570.length : Int) != 0) = true:=bne_iff_ne.mpr c130
                     have c130b2 : ¬ (t570 = []):=fun h_=>c130 (by rw [h_];rfl)
                     (first | rw [c130b0] |(simp only [i64_w,i32_w];rw [c130b0]) | rw [c130b1] | skip)
                     exact absurd ((Option.some.inj H).trans HRT.out) (by decide)
                  case rest=>
                   clear HC126
                   try clear c1
                   try clear c2
                   try clear p2
                   try clear c4
                   try clear p6
                   try clear c7
                   try clear c8
                   try clear c9
                   try clear c10
                   try clear c11
                   try clear c12
                   try clear c13
                   try clear c15
                   try clear c16
                   try clear c18
                   try clear c21
                   try clear c25
                   try clear c29
                   try clear p64
                   try clear c96
                   try clear c100
                   try clear c101
                   try clear c104
                   try clear c106
                   try clear c108
                   try clear c124
                   try clear c128
                   try clear c130
                   try clear c130b0
                   try clear c130b1
                   try clear c130b2
                   try clear p2
                   obtain⟨kq,HA,HJ125,HO_0,HO_1,HO_13,HO_14,HB⟩:=hcut
                   cases kq with
                   | zero=>exact absurd HA.out (by simp [whetstonelaw01_NatRing.j4])
                   | succ kj125=>
                    have H:=HA.out
                    clear HA
                    simp only [whetstonelaw01_NatRing.j4] at H
                    replace H:=Option.bind_eq_some_iff.mp H
                    obtain⟨t573,A1350,H⟩:=H
                    try dsimp only at H
                    have A135:=am A1350
                    clear A1350
                    by_cases c136 : t573 = true
                    ·subst c136
                     have H1 : ((nat_Right.f kj125 t566).bind fun t574=>(if t574 = true then((nat_Cmp.f kj125 t566 l1).bind fun t575=>(if t575 < 0 then((nat_Mul.f kj125 (([t563,l1] : List (List Int)))).bind fun t579=>((nat_Add.f kj125 (([t579,t566] : List (List Int)))).bind fun t585=>((nat_Trim.f kj125 l0).bind fun t588=>((whetstonelaw01_same.f kj125 t585 t588).bind fun t591=>(some t591))))) else(some false))) else(some false))) = some r:=by rw [if_pos rfl] at H;exact H
                     clear H
                     have H:=H1
                     clear H1
                     replace H:=Option.bind_eq_some_iff.mp H
                     obtain⟨t574,A1370,H⟩:=H
                     try dsimp only at H
                     have A137:=am A1370
                     clear A1370
                     by_cases c138 : t574 = true
                     ·subst c138
                      have H1 : ((nat_Cmp.f kj125 t566 l1).bind fun t575=>(if t575 < 0 then((nat_Mul.f kj125 (([t563,l1] : List (List Int)))).bind fun t579=>((nat_Add.f kj125 (([t579,t566] : List (List Int)))).bind fun t585=>((nat_Trim.f kj125 l0).bind fun t588=>((whetstonelaw01_same.f kj125 t585 t588).bind fun t591=>(some t591))))) else(some false))) = some r:=by rw [if_pos rfl] at H;exact H
                      clear H
                      have H:=H1
                      clear H1
                      replace H:=Option.bind_eq_some_iff.mp H
                      obtain⟨t575,A1390,H⟩:=H
                      try dsimp only at H
                      have A139:=am A1390
                      clear A1390
                      by_cases c140 : t575 < 0
                      ·rw [if_pos c140] at H
                       have c140b0 : decide (t575 < 0) = true:=decide_eq_true c140
                       clear c140
                       obtain⟨y576,hy576⟩ : ∃ y_ : List (List Int),y_ = (([t563,l1] : List (List Int))):=⟨_,rfl⟩
                       replace H : ((nat_Mul.f kj125 y576).bind fun t579=>((nat_Add.f kj125 (([t579,t566] : List (List Int)))).bind fun t585=>((nat_Trim.f kj125 l0).bind fun t588=>((whetstonelaw01_same.f kj125 t585 t588).bind fun t591=>(some t591))))) = some r:=by first |(rw [hy576];with_reducible exact H) |(have H2_:=(Option.bind_some _ _).symm.trans H;rw [hy576];with_reducible exact H2_) |(have H2_:=(Option.bind_some _ _).symm.trans H;with_reducible exact H2_) | with_reducible exact H |(rw [hy576];exact H) | exact H
                       have Ny576:=am hy576
                       clear hy576
                       replace H:=Option.bind_eq_some_iff.mp H
                       obtain⟨t579,A1410,H⟩:=H
                       try dsimp only at H
                       have A141:=am A1410
                       clear A1410
                       obtain⟨y582,hy582⟩ : ∃ y_ : List (List Int),y_ = (([t579,t566] : List (List Int))):=⟨_,rfl⟩
                       replace H : ((nat_Add.f kj125 y582).bind fun t585=>((nat_Trim.f kj125 l0).bind fun t588=>((whetstonelaw01_same.f kj125 t585 t588).bind fun t591=>(some t591)))) = some r:=by first |(rw [hy582];with_reducible exact H) |(have H2_:=(Option.bind_some _ _).symm.trans H;rw [hy582];with_reducible exact H2_) |(have H2_:=(Option.bind_some _ _).symm.trans H;with_reducible exact H2_) | with_reducible exact H |(rw [hy582];exact H) | exact H
                       have Ny582:=am hy582
                       clear hy582
                       replace H:=Option.bind_eq_some_iff.mp H
                       obtain⟨t585,A1420,H⟩:=H
                       try dsimp only at H
                       have A142:=am A1420
                       clear A1420
                       replace H:=Option.bind_eq_some_iff.mp H
                       obtain⟨t588,A1430,H⟩:=H
                       try dsimp only at H
                       have A143:=am A1430
                       clear A1430
                       replace H:=Option.bind_eq_some_iff.mp H
                       obtain⟨t591,A1440,H⟩:=H
                       try dsimp only at H
                       have A144:=am A1440
                       clear A1440
                       obtain rfl:=Option.some.inj H
                       obtain⟨Ao145,co145,eo145⟩:=Kd.V_slice HO_13.out
                       subst eo145
                       go_wp2_with (first |((with_reducible refine gate_callee (f:=17) rfl ?_);refine goesL_ (some 156) rfl rfl Tryd.func17 (by kernel_rfl) rfl #[.slice Ao145 t563.length co145] rfl zl ?_;(with_reducible refine(nat_Right.calls kj125 _ _ t563 true _ ?side1 ?side2 A135.out).mono ?_);(case side1=>exact zC (Kd.V_reads' HO_13.out).2.2);(case side2=>exact(Kd.V_reads' HO_13.out).2.1);rintro e w' ⟨rfl,⟨nd,rfl⟩⟩;refine⟨_,rfl,?_⟩;(try (rw [drewN_self wc];generalize hq_ : World.drewN wc _ = wc;have n0_ : Aside0 (Kd.V (Kd.int .u32) 32 wc w.heap.size (fun k_=>((P0_ k_∨P1_ k_∨P2_ k_)∨w.heap.size≤k_)) (.slice A0 l0.length c0) l0):=⟨by rw [← hq_];exact(zV HO_0.out)⟩;have n1_ : Aside0 (Kd.V (Kd.int .u32) 32 wc w.heap.size (fun k_=>((P0_ k_∨P1_ k_∨P2_ k_)∨w.heap.size≤k_)) (.slice A1 l1.length c1) l1):=⟨by rw [← hq_];exact(zV HO_1.out)⟩;have n2_ : Aside0 (Kd.V (Kd.int .u32) 32 wc w.heap.size (fun k_=>((P0_ k_∨P1_ k_∨P2_ k_)∨w.heap.size≤k_)) (.slice Ao145 t563.length co145) t563):=⟨by rw [← hq_];exact(zV HO_13.out)⟩;have n3_ : Aside0 (Kd.V (Kd.int .u32) 32 wc w.heap.size (fun k_=>((P0_ k_∨P1_ k_∨P2_ k_)∨w.heap.size≤k_)) v567 t566):=⟨by rw [← hq_];exact(zV HO_14.out)⟩;have n4_ : Aside0 (Below w.heap.size w wc):=⟨by rw [← hq_];exact zb⟩;clear HO_0 HO_1 HO_13 HO_14 HB hq_;have HO_0:=n0_;have HO_1:=n1_;have HO_13:=n2_;have HO_14:=n3_;have HB:=n4_;clear n0_ n1_ n2_ n3_ n4_));obtain⟨Ao146,co146,eo146⟩:=Kd.V_slice HO_14.out;subst eo146) |(go_at_call 17;(with_reducible refine(nat_Right.calls kj125 _ _ t566 true _ ?side1 ?side2 A137.out).mono ?_);(case side1=>exact zC (Kd.V_reads' HO_14.out).2.2);(case side2=>exact(Kd.V_reads' HO_14.out).2.1);rintro e w' ⟨rfl,⟨nd,rfl⟩⟩;(try (rw [drewN_self wc];generalize hq_ : World.drewN wc _ = wc;have n0_ : Aside0 (Kd.V (Kd.int .u32) 32 wc w.heap.size (fun k_=>((P0_ k_∨P1_ k_∨P2_ k_)∨w.heap.size≤k_)) (.slice A0 l0.length c0) l0):=⟨by rw [← hq_];exact(zV HO_0.out)⟩;have n1_ : Aside0 (Kd.V (Kd.int .u32) 32 wc w.heap.size (fun k_=>((P0_ k_∨P1_ k_∨P2_ k_)∨w.heap.size≤k_)) (.slice A1 l1.length c1) l1):=⟨by rw [← hq_];exact(zV HO_1.out)⟩;have n2_ : Aside0 (Kd.V (Kd.int .u32) 32 wc w.heap.size (fun k_=>((P0_ k_∨P1_ k_∨P2_ k_)∨w.heap.size≤k_)) (.slice Ao145 t563.length co145) t563):=⟨by rw [← hq_];exact(zV HO_13.out)⟩;have n3_ : Aside0 (Kd.V (Kd.int .u32) 32 wc w.heap.size (fun k_=>((P0_ k_∨P1_ k_∨P2_ k_)∨w.heap.size≤k_)) (.slice Ao146 t566.length co146) t566):=⟨by rw [← hq_];exact(zV HO_14.out)⟩;have n4_ : Aside0 (Below w.heap.size w wc):=⟨by rw [← hq_];exact zb⟩;clear HO_0 HO_1 HO_13 HO_14 HB hq_;have HO_0:=n0_;have HO_1:=n1_;have HO_13:=n2_;have HO_14:=n3_;have HB:=n4_;clear n0_ n1_ n2_ n3_ n4_))) |(go_at_call 19;(with_reducible refine(nat_Cmp.calls kj125 _ _ t566 _ _ l1 t575 _ ?side1 ?side2 ?side3 ?side4 A139.out).mono ?_);(case side1=>exact zC (Kd.V_reads' HO_14.out).2.2);(case side2=>exact(Kd.V_reads' HO_14.out).2.1);(case side3=>exact zC (Kd.V_reads' HO_1.out).2.2);(case side4=>exact(Kd.V_reads' HO_1.out).2.1);rintro e w147 ⟨rfl,hb⟩;replace HO_0:=vb HO_0 hb;replace HO_1:=vb HO_1 hb;replace HO_13:=vb HO_13 hb;replace HO_14:=vb HO_14 hb;replace HB:=am (below_step zb hb);(try clear hb);skip) |((with_reducible refine gate_dst (N:=170) rfl ?_);(try (refine gate_guard (by rfl) ?_;dsimp only));refine Kd.N_lit (Kd.slice 32 (Kd.int .u32)) _ 26 ?hg (N':=170) ?hd (xs:=([t563,l1] : List (List Int))) (inner:=[.slice Ao145 t563.length co145,.slice A1 l1.length c1]) (ok:=(fun k_=>((P0_ k_∨P1_ k_∨P2_ k_)∨w.heap.size≤k_))) (okp:=(fun k_=>((P0_ k_∨P1_ k_∨P2_ k_)∨w.heap.size≤k_))) ?hr ?hp (fun _ hk=>hk) ((show ∀ k_,w147.heap.size≤k_→(fun k_=>((P0_ k_∨P1_ k_∨P2_ k_)∨w.heap.size≤k_)) k_ from fun k_ hk=>(.inr (Nat.le_trans (below_size zb) hk))) _ (Nat.le_refl _)) (Below.refl _ _) (Nat.le_refl _) (by simp) ?_;(case hd=>rfl);(case hg=>rfl);(case hr=>exact zh);(case hp=>exact(Reps.one (show Kd.FK (Kd.slice 32 (Kd.int .u32)) _ _ t563 [.slice Ao145 t563.length co145] from(Kd.FK_slice_mk (Kd.V_reads' (Kd.V_mono (ok':=(fun k_=>((P0_ k_∨P1_ k_∨P2_ k_)∨w.heap.size≤k_))) ((by first |(with_reducible exact HO_13.out) |(refine zV ?_;exact HO_13.out))) (fun k_ hk=>by first | exact hk | exact hk | exact zD hk))).2.1 (Kd.V_F (Kd.V_mono (ok':=(fun k_=>((P0_ k_∨P1_ k_∨P2_ k_)∨w.heap.size≤k_))) ((by first |(with_reducible exact HO_13.out) |(refine zV ?_;exact HO_13.out))) (fun k_ hk=>by first | exact hk | exact hk | exact zD hk))))) (Reps.one (show Kd.FK (Kd.slice 32 (Kd.int .u32)) _ _ l1 [.slice A1 l1.length c1] from(Kd.FK_slice_mk (Kd.V_reads' (Kd.V_mono (ok':=(fun k_=>((P0_ k_∨P1_ k_∨P2_ k_)∨w.heap.size≤k_))) ((by first |(with_reducible exact HO_1.out) |(refine zV ?_;exact HO_1.out))) (fun k_ hk=>by first | exact hk | exact hk | exact zD hk))).2.1 (Kd.V_F (Kd.V_mono (ok':=(fun k_=>((P0_ k_∨P1_ k_∨P2_ k_)∨w.heap.size≤k_))) ((by first |(with_reducible exact HO_1.out) |(refine zV ?_;exact HO_1.out))) (fun k_ hk=>by first | exact hk | exact hk | exact zD hk))))) (Reps.none _ _))));intro v577 w148 ho149 hb hg_ hnew_;clear hg_ hnew_;(first | rw [← Ny576.out] at ho149 |(simp only [Int.reduceToNat] at ho149;rw [← Ny576.out] at ho149));replace HO_0:=ve HO_0 (Kd.N_base ho149) hb;replace HO_1:=ve HO_1 (Kd.N_base ho149) hb;replace HO_13:=ve HO_13 (Kd.N_base ho149) hb;replace HO_14:=ve HO_14 (Kd.N_base ho149) hb;have HO578:=am (Kd.N_lower ho149 (below_size zb));replace HB:=am (below_step zb hb);clear hb ho149;clear HO_1 HO_13;obtain⟨Ao150,co150,eo150⟩:=Kd.N_slice HO578.out;subst eo150) |(go_at_call 13;(with_reducible refine(nat_Mul.calls kj125 _ _ y576 t579 _ ?side1 ?side2 A141.out).mono ?_);(case side1=>exact zC (Kd.N_reads' HO578.out).2.2);(case side2=>exact(Kd.N_reads' HO578.out).2.1);rintro e w151 ⟨v580,rfl,ho0,hb⟩;replace HO_0:=vb HO_0 hb;replace HO_14:=vb HO_14 hb;have HO581:=am (Kd.V_lower (Kd.V_mono (ok':=fun k_=>((P0_ k_∨P1_ k_∨P2_ k_)∨w.heap.size≤k_)∧some k_≠(.slice Ao150 y576.length co150 : Value).ownBlock) ho0 (fun k_ hk_=>⟨(.inr (Nat.le_trans (below_size zb) hk_)),(Kd.fresh' (Kd.N_lt (zN HO578.out)) k_ hk_)⟩)) (below_size zb));replace HO578:=nb HO578 hb;replace HB:=am (below_step zb hb);(try clear hb);(try clear ho0);clear HO578;obtain⟨Ao152,co152,eo152⟩:=Kd.V_slice HO581.out;subst eo152) |((with_reducible refine gate_dst (N:=173) rfl ?_);(try (refine gate_guard (by rfl) ?_;dsimp only));refine Kd.N_lit (Kd.slice 32 (Kd.int .u32)) _ 26 ?hg (N':=173) ?hd (xs:=([t579,t566] : List (List Int))) (inner:=[.slice Ao152 t579.length co152,.slice Ao146 t566.length co146]) (ok:=(fun k_=>((P0_ k_∨P1_ k_∨P2_ k_)∨w.heap.size≤k_))) (okp:=(fun k_=>((P0_ k_∨P1_ k_∨P2_ k_)∨w.heap.size≤k_))) ?hr ?hp (fun _ hk=>hk) ((show ∀ k_,w151.heap.size≤k_→(fun k_=>((P0_ k_∨P1_ k_∨P2_ k_)∨w.heap.size≤k_)) k_ from fun k_ hk=>(.inr (Nat.le_trans (below_size zb) hk))) _ (Nat.le_refl _)) (Below.refl _ _) (Nat.le_refl _) (by simp) ?_;(case hd=>rfl);(case hg=>rfl);(case hr=>exact zh);(case hp=>exact(Reps.one (show Kd.FK (Kd.slice 32 (Kd.int .u32)) _ _ t579 [.slice Ao152 t579.length co152] from(Kd.FK_slice_mk (Kd.V_reads' (Kd.V_mono (ok':=(fun k_=>((P0_ k_∨P1_ k_∨P2_ k_)∨w.heap.size≤k_))) ((by first |(with_reducible exact HO581.out) |(refine zV ?_;exact HO581.out))) (fun k_ hk=>by first | exact hk.1 | exact hk | exact zD hk))).2.1 (Kd.V_F (Kd.V_mono (ok':=(fun k_=>((P0_ k_∨P1_ k_∨P2_ k_)∨w.heap.size≤k_))) ((by first |(with_reducible exact HO581.out) |(refine zV ?_;exact HO581.out))) (fun k_ hk=>by first | exact hk.1 | exact hk | exact zD hk))))) (Reps.one (show Kd.FK (Kd.slice 32 (Kd.int .u32)) _ _ t566 [.slice Ao146 t566.length co146] from(Kd.FK_slice_mk (Kd.V_reads' (Kd.V_mono (ok':=(fun k_=>((P0_ k_∨P1_ k_∨P2_ k_)∨w.heap.size≤k_))) ((by first |(with_reducible exact HO_14.out) |(refine zV ?_;exact HO_14.out))) (fun k_ hk=>by first | exact hk.1 | exact hk | exact zD hk))).2.1 (Kd.V_F (Kd.V_mono (ok':=(fun k_=>((P0_ k_∨P1_ k_∨P2_ k_)∨w.heap.size≤k_))) ((by first |(with_reducible exact HO_14.out) |(refine zV ?_;exact HO_14.out))) (fun k_ hk=>by first | exact hk.1 | exact hk | exact zD hk))))) (Reps.none _ _))));intro v583 w153 ho154 hb hg_ hnew_;clear hg_ hnew_;(first | rw [← Ny582.out] at ho154 |(simp only [Int.reduceToNat] at ho154;rw [← Ny582.out] at ho154));replace HO_0:=ve HO_0 (Kd.N_base ho154) hb;replace HO_14:=ve HO_14 (Kd.N_base ho154) hb;replace HO581:=ve HO581 (Kd.N_base ho154) hb;have HO584:=am (Kd.N_lower ho154 (below_size zb));replace HB:=am (below_step zb hb);clear hb ho154;clear HO_14 HO581;obtain⟨Ao155,co155,eo155⟩:=Kd.N_slice HO584.out;subst eo155) |(go_at_call 11;(with_reducible refine(nat_Add.calls kj125 _ _ y582 t585 _ ?side1 ?side2 A142.out).mono ?_);(case side1=>exact zC (Kd.N_reads' HO584.out).2.2);(case side2=>exact(Kd.N_reads' HO584.out).2.1);rintro e w156 ⟨v586,rfl,ho0,hb⟩;replace HO_0:=vb HO_0 hb;have HO587:=am (Kd.V_lower (Kd.V_mono (ok':=fun k_=>((P0_ k_∨P1_ k_∨P2_ k_)∨w.heap.size≤k_)∧some k_≠(.slice Ao155 y582.length co155 : Value).ownBlock) ho0 (fun k_ hk_=>⟨(.inr (Nat.le_trans (below_size zb) hk_)),(Kd.fresh' (Kd.N_lt (zN HO584.out)) k_ hk_)⟩)) (below_size zb));replace HO584:=nb HO584 hb;replace HB:=am (below_step zb hb);(try clear hb);(try clear ho0);clear HO584) |(go_at_call 16;(with_reducible refine(nat_Trim.calls kj125 _ _ l0 t588 _ ?side1 ?side2 A143.out).mono ?_);(case side1=>exact zC (Kd.V_reads' HO_0.out).2.2);(case side2=>exact(Kd.V_reads' HO_0.out).2.1);rintro e w157 ⟨v589,rfl,ho0,hb⟩;replace HO_0:=ve HO_0 (Kd.R_base ho0) hb;replace HO587:=ve HO587 (Kd.R_base ho0) hb;have HO590:=am (Kd.R_lower (Kd.R_newM (M:=fun k_=>(w.heap.size≤k_)) ho0 (below_size zb) (fun k_ h_=>h_)) (below_size zb));replace HB:=am (below_step zb hb);(try clear hb);(try clear ho0);clear HO_0;obtain⟨Ao158,co158,eo158⟩:=Kd.V_slice HO587.out;subst eo158;obtain⟨Ao159,co159,eo159⟩:=Kd.R_slice HO590.out;subst eo159) |(go_at_call 10;(with_reducible refine(whetstonelaw01_same.calls kj125 _ _ t585 _ _ t588 t591 _ ?side1 ?side2 ?side3 ?side4 A144.out).mono ?_);(case side1=>exact zC (Kd.V_reads' HO587.out).2.2);(case side2=>exact(Kd.V_reads' HO587.out).2.1);(case side3=>exact zC (Kd.R_reads' HO590.out).2.2);(case side4=>exact(Kd.R_reads' HO590.out).2.1);rintro e w' ⟨rfl,⟨nd,rfl⟩⟩))
                       go_ret
                       exact⟨zf,zb⟩
                      ·rw [if_neg c140] at H
                       have c140b0 : decide (t575 < 0) = false:=decide_eq_false c140
                       clear c140
                       exact absurd ((Option.some.inj H).trans HRT.out) (by decide)
                     ·replace c138:=Bool.eq_false_iff.mpr c138
                      subst c138
                      have H1 : (some false) = some r:=by rw [if_neg (show ¬ (false = true) by decide)] at H;exact H
                      clear H
                      have H:=H1
                      clear H1
                      exact absurd ((Option.some.inj H).trans HRT.out) (by decide)
                    ·replace c136:=Bool.eq_false_iff.mpr c136
                     subst c136
                     have H1 : (some false) = some r:=by rw [if_neg (show ¬ (false = true) by decide)] at H;exact H
                     clear H
                     have H:=H1
                     clear H1
                     exact absurd ((Option.some.inj H).trans HRT.out) (by decide)
               ·replace c108:=Bool.eq_false_iff.mpr c108
                subst c108
                have H1 : (some false) = some r:=by rw [if_neg (show ¬ (false = true) by decide)] at H;exact H
                clear H
                have H:=H1
                clear H1
                exact absurd ((Option.some.inj H).trans HRT.out) (by decide)
              ·replace c106:=Bool.eq_false_iff.mpr c106
               subst c106
               have H1 : (some false) = some r:=by rw [if_neg (show ¬ (false = true) by decide)] at H;exact H
               clear H
               have H:=H1
               clear H1
               exact absurd ((Option.some.inj H).trans HRT.out) (by decide)
             ·replace c104:=Bool.eq_false_iff.mpr c104
              subst c104
              have H1 : (some false) = some r:=by rw [if_neg (show ¬ (false = true) by decide)] at H;exact H
              clear H
              have H:=H1
              clear H1
              exact absurd ((Option.some.inj H).trans HRT.out) (by decide)
           ·replace c100:=Bool.eq_false_iff.mpr c100
            subst c100
            have H1 : (some false) = some r:=by rw [if_neg (show ¬ (false = true) by decide)] at H;exact H
            clear H
            have H:=H1
            clear H1
            exact absurd ((Option.some.inj H).trans HRT.out) (by decide)
        ·replace c29:=Bool.eq_false_iff.mpr c29
         subst c29
         have H1 : (some false) = some r:=by rw [if_neg (show ¬ (false = true) by decide)] at H;exact H
         clear H
         have H:=H1
         clear H1
         exact absurd ((Option.some.inj H).trans HRT.out) (by decide)
       ·replace c25:=Bool.eq_false_iff.mpr c25
        subst c25
        have H1 : (some false) = some r:=by rw [if_neg (show ¬ (false = true) by decide)] at H;exact H
        clear H
        have H:=H1
        clear H1
        exact absurd ((Option.some.inj H).trans HRT.out) (by decide)
      ·replace c21:=Bool.eq_false_iff.mpr c21
       subst c21
       have H1 : (some false) = some r:=by rw [if_neg (show ¬ (false = true) by decide)] at H;exact H
       clear H
       have H:=H1
       clear H1
       exact absurd ((Option.some.inj H).trans HRT.out) (by decide)
     ·replace c18:=Bool.eq_false_iff.mpr c18
      subst c18
      have H1 : (some false) = some r:=by rw [if_neg (show ¬ (false = true) by decide)] at H;exact H
      clear H
      have H:=H1
      clear H1
      exact absurd ((Option.some.inj H).trans HRT.out) (by decide)

end Go.Proofs.YtnkkndninilciaaDoor.X

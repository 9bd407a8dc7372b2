-- Printed by xprint.py, this session's own program (wip/tool), out of the translation. Lean checks it.
import Derived.Test.YtcbohpmdeboeoaaGreatDoorRRZ
import Derived.Test.YtcbohpmdeboeoaaGreatDoorRRX0
import Derived.Test.YtcbohpmdeboeoaaGreatDoorRRX2
import Derived.Test.YtcbohpmdeboeoaaGreatDoorRRX3
import Derived.Test.YtcbohpmdeboeoaaGreatDoorRRX4
import Derived.Test.YtcbohpmdeboeoaaGreatDoorRRX7
import Derived.Test.YtcbohpmdeboeoaaGreatDoorRRX10
import Derived.Test.YtcbohpmdeboeoaaGreatDoorRRX11
namespace Go.Proofs.YtcbohpmdeboeoaaGreatDoorRR.X
open Go.Proofs.YtcbohpmdeboeoaaGreatDoorRR.Z
open Go.RowKit Go.Proofs.YtcbohpmdeboeoaaGreatDoorRRW.PrintWords Go.Proofs.YtcbohpmdeboeoaaGreatDoorRRW.PrintLast Go.Proofs.YtcbohpmdeboeoaaGreatDoorRRW.PrintMore
open List renaming setIfInBounds_toArray → sA, set_cons_zero → sZ, set_cons_succ → sS
open Aside0 renaming mk → am
open Bool renaming true → tt, false → ff
set_option maxHeartbeats 8000000
set_option maxRecDepth 100000
attribute [local go_sem] max2_int min2_int max_two min_two max_three min_three max_four min_four   -- for this text's walks alone
set_option linter.unusedVariables false
set_option linter.unusedSimpArgs false

/-! ### num_DivMod: function 26 -/
mutual
def num_DivMod.j0 : Nat→List Int→List Int→Bool→Bool→Bool→List Int→Bool→List Int→Bool→Option (Bool×List Int×Bool×List Int×Int)
 | 0,_,_,_,_,_,_,_,_,_=>none
 | k + 1,x9,x10,x11,x458000,x459000,x468000,x468001,x469000,x469001=>if x11 = true then((num_made.f k x9 (x468001 != x469001)).bind fun bt476=>((num_made.f k x10 x469001).bind fun bt480=>(if (x468001 != x469001) = true then((num_size_zero.f bt480.1).bind fun t486=>(num_DivMod.j1 k (!t486) x469000 x469001 bt476.1 bt476.2 bt480.1 bt480.2)) else(num_DivMod.j1 k false x469000 x469001 bt476.1 bt476.2 bt480.1 bt480.2)))) else(some (x458000,([] : List Int),x459000,([] : List Int),9))
def num_DivMod.j1 : Nat→Bool→List Int→Bool→List Int→Bool→List Int→Bool→Option (Bool×List Int×Bool×List Int×Int)
 | 0,_,_,_,_,_,_,_=>none
 | k + 1,x54,x469000,x469001,x485000,x485001,x486000,x486001=>if x54 = true then((num_small.f k 1 true).bind fun bt487=>((num_number_plus.f k x485000 x485001 bt487.1 bt487.2).bind fun bt491=>((num_number_turned.f x486000 x486001).bind fun bt495=>((num_number_plus.f k x469000 x469001 bt495.1 bt495.2).bind fun bt499=>((num_number_out.f bt491.1 bt491.2).bind fun bt503=>((num_number_out.f bt499.1 bt499.2).bind fun bt507=>(some (bt503.1,bt503.2,bt507.1,bt507.2,0)))))))) else((num_number_out.f x485000 x485001).bind fun bt511=>((num_number_out.f x486000 x486001).bind fun bt515=>(some (bt511.1,bt511.2,bt515.1,bt515.2,0))))
end
def num_DivMod.f (k : Nat) (a0_0 : Bool) (l0_1 : List Int) (a1_0 : Bool) (l1_1 : List Int) : Option (Bool×List Int×Bool×List Int×Int):=(num_of.f k a0_0 l0_1).bind fun bt459=>((num_of.f k a1_0 l1_1).bind fun bt463=>((nat_DivMod.f k bt459.1 bt463.1).bind fun bt469=>(num_DivMod.j0 k bt469.1 bt469.2.1 bt469.2.2 false false bt459.1 bt459.2 bt463.1 bt463.2)))
def num_DivMod.T1 : Bool×List (List Nat×List Nat):=(true,[([],[]),([0],[0]),([],[]),([2,1],[2]),([],[]),([],[]),([4,1,3,0,1,4,5],[1,4]),([5,3,6,0,1,2,3,4,5,6],[3,5])])
def num_DivMod.B1 : List Nat:=[0,1,0,7,0,0,63,127]
theorem num_DivMod.tab1 : rtab .any (opsOf Tryz.f26 1) = num_DivMod.T1:=by kernel_rfl
theorem num_DivMod.bits1 : waitsOk num_DivMod.T1.2 num_DivMod.B1 = true:=by kernel_rfl
def num_DivMod.T5 : Bool×List (List Nat×List Nat):=(true,[([],[]),([],[]),([1],[1]),([],[]),([3],[3]),([2,4],[2,4]),([0,5],[0,5]),([],[]),([],[]),([8],[8]),([7,9,6],[7,9]),([],[]),([],[]),([11,6,10,0,1,2,3,4,5,6,11,12],[6,11]),([12,10,13,0,1,2,3,4,5,6,7,8,9,10,11,12,13],[10,12])])
def num_DivMod.B5 : List Nat:=[0,0,2,0,8,30,63,0,0,256,1023,0,0,8191,16383]
theorem num_DivMod.tab5 : rtab .any (opsOf Tryz.f26 5) = num_DivMod.T5:=by kernel_rfl
theorem num_DivMod.bits5 : waitsOk num_DivMod.T5.2 num_DivMod.B5 = true:=by kernel_rfl
theorem num_DivMod.calls (k : Nat) (a0_0 : Bool) (A0_1 : Option Addr) (c0_1 : Nat) (l0_1 : List Int) (a1_0 : Bool) (A1_1 : Option Addr) (c1_1 : Nat) (l1_1 : List Int) (r1 : Bool) (r2 : List Int) (r3 : Bool) (r4 : List Int) (r5 : Int) (w : World) (hr0_1 : Kd.C (Kd.int .u32) w A0_1 l0_1.length l0_1) (hc0_1 : l0_1.length≤c0_1) (hr1_1 : Kd.C (Kd.int .u32) w A1_1 l1_1.length l1_1) (hc1_1 : l1_1.length≤c1_1) (h : num_DivMod.f k a0_0 l0_1 a1_0 l1_1 = some (r1,r2,r3,r4,r5)) :
  Calls Tryz.prog 26 #[.agg #[.bool a0_0,.slice A0_1 l0_1.length c0_1],.agg #[.bool a1_0,.slice A1_1 l1_1.length c1_1]] w fun e w'=>∃ v1_ v3_ : Value,e = .returned (.tuple #[.agg #[.bool r1,v1_],.agg #[.bool r3,v3_],.int .i64 r5])∧Kd.V (Kd.int .u32) 60 w' w.heap.size (fun k_=>(w.heap.size≤k_)) v1_ r2∧Kd.V (Kd.int .u32) 60 w' w.heap.size (fun k_=>(w.heap.size≤k_)) v3_ r4∧Below w.heap.size w w':=by
 have hu25:=Tryz.underlying25
 have hu54:=Tryz.underlying54
 have hu52:=Tryz.underlying52
 have HR0_1:=am hr0_1
 have HC0_1:=am hc0_1
 clear hr0_1 hc0_1
 have HR1_1:=am hr1_1
 have HC1_1:=am hc1_1
 clear hr1_1 hc1_1
 have HB:=am (Below.refl w.heap.size w)
 have H : ((num_of.f k a0_0 l0_1).bind fun bt459=>((num_of.f k a1_0 l1_1).bind fun bt463=>((nat_DivMod.f k bt459.1 bt463.1).bind fun bt469=>(num_DivMod.j0 k bt469.1 bt469.2.1 bt469.2.2 false false bt459.1 bt459.2 bt463.1 bt463.2)))) = some (r1,r2,r3,r4,r5):=h
 clear h
 replace H:=Option.bind_eq_some_iff.mp H
 obtain⟨⟨t459,t462⟩,A30,H⟩:=H
 try dsimp only at H
 have A3:=am A30
 clear A30
 replace H:=Option.bind_eq_some_iff.mp H
 obtain⟨⟨t463,t466⟩,A40,H⟩:=H
 try dsimp only at H
 have A4:=am A40
 clear A40
 have HC5:=am H
 clear H
 go_enter Tryz.func26,Tryz.ntmps26
 try go_wp2_with (first |((with_reducible refine gate_dst (N:=2) rfl ?_);refine box_event ?hg (N:=2) ?hd (cs:=#[.bool a0_0,.slice A0_1 l0_1.length c0_1]) (t:=25) ?hr ?_;(case hd=>rfl);(case hg=>rfl);(case hr=>exact zh);intro gb455 hg w6 hbox hb;have BK455:=am (hbox);have GW455:=gw w hg;have GE455:=gw w hg;replace HB:=am (below_step zb hb);clear hb hbox hg) |((with_reducible refine gate_dst (N:=3) rfl ?_);refine box_event ?hg (N:=3) ?hd (cs:=#[.bool a1_0,.slice A1_1 l1_1.length c1_1]) (t:=25) ?hr ?_;(case hd=>rfl);(case hg=>rfl);(case hr=>exact zh);intro gb456 hg w7 hbox hb;have BK456:=am (hbox);have GW456:=gw w hg;have GE456:=gw w hg;replace HB:=am (below_step zb hb);have NB455_456:=nl BK455 hg;have NB456_455:=nr BK455 hg;replace BK455:=kb BK455 hb;clear hb hbox hg) |((with_reducible refine gate_dst (N:=4) rfl ?_);refine box_event ?hg (N:=4) ?hd (cs:=#[.bool false,.slice none 0 0]) (t:=25) ?hr ?_;(case hd=>rfl);(case hg=>rfl);(case hr=>exact zh);intro gb457 hg w8 hbox hb;have BK457:=am (hbox);have GW457:=gw w hg;have GE457:=gw w hg;replace HB:=am (below_step zb hb);have NB455_457:=nl BK455 hg;have NB457_455:=nr BK455 hg;replace BK455:=kb BK455 hb;have NB456_457:=nl BK456 hg;have NB457_456:=nr BK456 hg;replace BK456:=kb BK456 hb;clear hb hbox hg) |((with_reducible refine gate_dst (N:=5) rfl ?_);refine box_event ?hg (N:=5) ?hd (cs:=#[.bool false,.slice none 0 0]) (t:=25) ?hr ?_;(case hd=>rfl);(case hg=>rfl);(case hr=>exact zh);intro gb458 hg w9 hbox hb;have BK458:=am (hbox);have GW458:=gw w hg;have GE458:=gw w hg;replace HB:=am (below_step zb hb);have NB455_458:=nl BK455 hg;have NB458_455:=nr BK455 hg;replace BK455:=kb BK455 hb;have NB456_458:=nl BK456 hg;have NB458_456:=nr BK456 hg;replace BK456:=kb BK456 hb;have NB457_458:=nl BK457 hg;have NB458_457:=nr BK457 hg;replace BK457:=kb BK457 hb;clear hb hbox hg))
 replace BK455:=am (blk_drew BK455.out)
 replace BK456:=am (blk_drew BK456.out)
 replace BK457:=am (blk_drew BK457.out)
 replace BK458:=am (blk_drew BK458.out)
 replace HB:=am (below_drew1 HB.out)
 refine start_ (n:=8) (S:=fun w'=>True) (ds:=[]) #[ff,ff,ff,ff,ff,ff,ff,ff] (by kernel_rfl) rfl rfl trivial (fun hHeld=>?_);refine with_tabW num_DivMod.tab1 num_DivMod.bits1 (fun HT_ HW_=>?_)
 generalize w9.drew = w10 at BK455 BK456 BK457 BK458 HB hHeld ⊢
 refine inv_at [0,1,2,3,4,5,6,7] (fun a0_ b a w'=>∃ (v460 : Value) (v464 : Value) (gb467 : Nat) (gb468 : Nat) (m1_ : Value) (m3_ : Value) (m4_ : Value) (m5_ : Value),a = putSel a0_ b [(0,14,.agg #[.bool a0_0,.slice A0_1 l0_1.length c0_1]),(1,15,m1_),(2,16,.agg #[.bool a1_0,.slice A1_1 l1_1.length c1_1]),(3,17,m3_),(4,7,m4_),(5,8,m5_)]∧(w'.heap[gb455]? = some (.cells #[.bool a0_0,.slice A0_1 l0_1.length c0_1] 25 (0,0)))∧(w'.heap[gb456]? = some (.cells #[.bool a1_0,.slice A1_1 l1_1.length c1_1] 25 (0,0)))∧(w'.heap[gb457]? = some (.cells #[.bool false,.slice none 0 0] 25 (0,0)))∧(w'.heap[gb458]? = some (.cells #[.bool false,.slice none 0 0] 25 (0,0)))∧(Below w.heap.size w w')∧(b 4 = true→b 5 = true→gb468≠gb467)∧(b 4 = true→b 5 = true→gb467≠gb468)∧(b 1 = true→Kd.R (Kd.int .u32) 60 w' w.heap.size (fun k_=>(w.heap.size≤k_)) v460 t459)∧(b 3 = true→Kd.R (Kd.int .u32) 60 w' w.heap.size (fun k_=>(w.heap.size≤k_)) v464 t463)∧(b 3 = true→∀ k_,(v460 : Value).ownBlock = some k_→some k_≠(v464 : Value).ownBlock)∧(b 3 = true→∀ k_,(v464 : Value).ownBlock = some k_→some k_≠(v460 : Value).ownBlock)∧(b 4 = true→b 6 = false→w'.heap[gb467]? = some (.cells #[.slice none 0 0,.bool false] 54 (0,0)))∧(b 4 = true→w.heap.size≤gb467)∧(b 4 = true→w.heap.size≤gb467)∧(b 4 = true→gb455≠gb467)∧(b 4 = true→gb467≠gb455)∧(b 4 = true→gb456≠gb467)∧(b 4 = true→gb467≠gb456)∧(b 4 = true→gb457≠gb467)∧(b 4 = true→gb467≠gb457)∧(b 4 = true→gb458≠gb467)∧(b 4 = true→gb467≠gb458)∧(b 5 = true→b 7 = false→w'.heap[gb468]? = some (.cells #[.slice none 0 0,.bool false] 54 (0,0)))∧(b 5 = true→w.heap.size≤gb468)∧(b 5 = true→w.heap.size≤gb468)∧(b 5 = true→gb455≠gb468)∧(b 5 = true→gb468≠gb455)∧(b 5 = true→gb456≠gb468)∧(b 5 = true→gb468≠gb456)∧(b 5 = true→gb457≠gb468)∧(b 5 = true→gb468≠gb457)∧(b 5 = true→gb458≠gb468)∧(b 5 = true→gb468≠gb458)∧(b 6 = true→w'.heap[gb467]? = some (.cells #[v460,.bool t462] 54 (0,0)))∧(b 7 = true→w'.heap[gb468]? = some (.cells #[v464,.bool t466] 54 (0,0)))∧(b 1 = true→(m1_ : Value) = .agg #[v460,.bool t462])∧(b 3 = true→(m3_ : Value) = .agg #[v464,.bool t466])∧(b 4 = true→(m4_ : Value) = .pointer (some ⟨gb467,0,none⟩))∧(b 5 = true→(m5_ : Value) = .pointer (some ⟨gb468,0,none⟩))) HT_.out HW_.out (by kernel_rfl) (by kernel_rfl) ?_ ?_ ?_
 ·exact⟨.bool false,.bool false,0,0,.bool false,.bool false,.bool false,.bool false,by simp only [putSel,Bool.false_eq_true,if_false],BK455.out,BK456.out,BK457.out,BK458.out,HB.out,fun h_=>absurd h_ (by decide),fun h_=>absurd h_ (by decide),fun h_=>absurd h_ (by decide),fun h_=>absurd h_ (by decide),fun h_=>absurd h_ (by decide),fun h_=>absurd h_ (by decide),fun h_=>absurd h_ (by decide),fun h_=>absurd h_ (by decide),fun h_=>absurd h_ (by decide),fun h_=>absurd h_ (by decide),fun h_=>absurd h_ (by decide),fun h_=>absurd h_ (by decide),fun h_=>absurd h_ (by decide),fun h_=>absurd h_ (by decide),fun h_=>absurd h_ (by decide),fun h_=>absurd h_ (by decide),fun h_=>absurd h_ (by decide),fun h_=>absurd h_ (by decide),fun h_=>absurd h_ (by decide),fun h_=>absurd h_ (by decide),fun h_=>absurd h_ (by decide),fun h_=>absurd h_ (by decide),fun h_=>absurd h_ (by decide),fun h_=>absurd h_ (by decide),fun h_=>absurd h_ (by decide),fun h_=>absurd h_ (by decide),fun h_=>absurd h_ (by decide),fun h_=>absurd h_ (by decide),fun h_=>absurd h_ (by decide),fun h_=>absurd h_ (by decide),fun h_=>absurd h_ (by decide),fun h_=>absurd h_ (by decide),fun h_=>absurd h_ (by decide),fun h_=>absurd h_ (by decide)⟩
 ·skip
  clear BK455 BK456 BK457 BK458 HB
  refine steps_cons ?_ ?_
  ·rintro b a w' ⟨v460,v464,gb467,gb468,m1_,m3_,m4_,m5_,ha,Q_BK455,Q_BK456,Q_BK457,Q_BK458,Q_HB,Q_NB468_467,Q_NB467_468,Q_HO461,Q_HO465,Q_AP461_465,Q_AP465_461,Q_BK467,Q_GW467,Q_GE467,Q_NB455_467,Q_NB467_455,Q_NB456_467,Q_NB467_456,Q_NB457_467,Q_NB467_457,Q_NB458_467,Q_NB467_458,Q_BK468,Q_GW468,Q_GE468,Q_NB455_468,Q_NB468_455,Q_NB456_468,Q_NB468_456,Q_NB457_468,Q_NB468_457,Q_NB458_468,Q_NB468_458,Q_BK467_e6,Q_BK468_e7,Q_X1_,Q_X3_,Q_X4_,Q_X5_⟩ hb_ hon hoff
   refine⟨_,rfl,fun K hK=>?_⟩
   have e2 : a.tmps[2]? = some (.pointer (some ⟨gb455,0,none⟩)):=by rw [ha];exact(putSel_off rfl).trans rfl
   replace ha:=am ha
   have BK455:=am Q_BK455
   have BK456:=am Q_BK456
   have BK457:=am Q_BK457
   have BK458:=am Q_BK458
   have HB:=am Q_HB
   have hc0_ : w'.cell? ⟨gb455,0,none⟩ = some (.bool a0_0):=(blk_cell BK455.out 0).trans rfl
   have hc1_ : w'.cell? ⟨gb455,1,none⟩ = some (.slice A0_1 l0_1.length c0_1):=(blk_cell BK455.out 1).trans rfl
   refine value_ (w1:=w') (v:=.agg #[.bool a0_0,.slice A0_1 l0_1.length c0_1]) (by rfl) rfl ?_ ?_
   ·go_simp
    (try simp only [i64_w])
    try first | rfl |(simp only [bne,Bool.not_not];done) |(simp [bne];done)
   refine hK.out _ _ ⟨v460,v464,gb467,gb468,m1_,m3_,m4_,m5_,(by rw [ha.out];exact putSel_upk 0 hb_ rfl rfl rfl),Q_BK455,Q_BK456,Q_BK457,Q_BK458,Q_HB,Q_NB468_467,Q_NB467_468,fun h0_=>absurd ((hoff 1 (by kernel_rfl)).symm.trans h0_) (by decide),fun h0_=>absurd ((hoff 3 (by kernel_rfl)).symm.trans h0_) (by decide),fun h0_=>absurd ((hoff 3 (by kernel_rfl)).symm.trans h0_) (by decide),fun h0_=>absurd ((hoff 3 (by kernel_rfl)).symm.trans h0_) (by decide),Q_BK467,Q_GW467,Q_GE467,Q_NB455_467,Q_NB467_455,Q_NB456_467,Q_NB467_456,Q_NB457_467,Q_NB467_457,Q_NB458_467,Q_NB467_458,Q_BK468,Q_GW468,Q_GE468,Q_NB455_468,Q_NB468_455,Q_NB456_468,Q_NB468_456,Q_NB457_468,Q_NB468_457,Q_NB458_468,Q_NB468_458,fun h0_=>absurd ((hoff 6 (by kernel_rfl)).symm.trans h0_) (by decide),fun h0_=>absurd ((hoff 7 (by kernel_rfl)).symm.trans h0_) (by decide),fun h0_=>absurd ((hoff 1 (by kernel_rfl)).symm.trans h0_) (by decide),fun h0_=>absurd ((hoff 3 (by kernel_rfl)).symm.trans h0_) (by decide),Q_X4_,Q_X5_⟩
  refine steps_cons ?_ ?_
  ·rintro b a w' ⟨v460,v464,gb467,gb468,m1_,m3_,m4_,m5_,ha,Q_BK455,Q_BK456,Q_BK457,Q_BK458,Q_HB,Q_NB468_467,Q_NB467_468,Q_HO461,Q_HO465,Q_AP461_465,Q_AP465_461,Q_BK467,Q_GW467,Q_GE467,Q_NB455_467,Q_NB467_455,Q_NB456_467,Q_NB467_456,Q_NB457_467,Q_NB467_457,Q_NB458_467,Q_NB467_458,Q_BK468,Q_GW468,Q_GE468,Q_NB455_468,Q_NB468_455,Q_NB456_468,Q_NB468_456,Q_NB457_468,Q_NB468_457,Q_NB458_468,Q_NB468_458,Q_BK467_e6,Q_BK468_e7,Q_X1_,Q_X3_,Q_X4_,Q_X5_⟩ hb_ hon hoff
   refine⟨_,rfl,fun K hK=>?_⟩
   have e14 : a.tmps[14]? = some (.agg #[.bool a0_0,.slice A0_1 l0_1.length c0_1]):=by rw [ha];exact putSel_on (e:=(0,14,.agg #[.bool a0_0,.slice A0_1 l0_1.length c0_1])) 0 rfl rfl (hon 0 (by kernel_rfl)) rfl
   replace ha:=am ha
   have BK455:=am Q_BK455
   have BK456:=am Q_BK456
   have BK457:=am Q_BK457
   have BK458:=am Q_BK458
   have HB:=am Q_HB
   refine goes_ Tryz.func49 (by kernel_rfl) rfl #[.agg #[.bool a0_0,.slice A0_1 l0_1.length c0_1]] (by rfl) rfl rfl (by first |(simp only [List.map_toArray,List.map_cons,List.map_nil,Act.eval,Array.getD_eq_getD_getElem?,Option.getD_some,e14];done) |(simp only [List.map_toArray,List.map_cons,List.map_nil,Act.eval,Array.getD_eq_getD_getElem?,Option.getD_some,e14];rfl)) ?_
   with_reducible refine(num_of.calls k a0_0 _ _ l0_1 t459 t462 _ ?side1 ?side2 A3.out).mono ?_
   (case side1=>repeat (first | exact(Kd.C_below HR0_1.out HB.out) |(with_reducible refine Kd.C_alloc ?_ _) |(with_reducible refine Kd.C_drewN ?_ _) |(with_reducible refine Kd.C_drew ?_)))
   (case side2=>exact HC0_1.out)
   rintro e w11 ⟨v460,rfl,ho0,hb⟩
   refine⟨_,rfl,?_⟩
   have n0_:=am (Kd.R_lower (Kd.R_newM (M:=fun k_=>(w.heap.size≤k_)) ho0 (below_size zb) (fun k_ h_=>h_)) (below_size zb))
   have n1_:=kb BK455 hb
   have n2_:=kb BK456 hb
   have n3_:=kb BK457 hb
   have n4_:=kb BK458 hb
   have n5_:=am (below_step zb hb)
   have z_BK467:=fun (h0_ : b 4 = true) (h1_ : b 6 = false)=>(show w11.heap[gb467]? = some (.cells #[.slice none 0 0,.bool false] 54 (0,0)) from by first | exact(blk_below (g:=gb467) (o:=.cells #[.slice none 0 0,.bool false] 54 (0,0)) (by refine zk ?_;exact(Q_BK467 h0_ h1_)) hb))
   have z_BK468:=fun (h0_ : b 5 = true) (h1_ : b 7 = false)=>(show w11.heap[gb468]? = some (.cells #[.slice none 0 0,.bool false] 54 (0,0)) from by first | exact(blk_below (g:=gb468) (o:=.cells #[.slice none 0 0,.bool false] 54 (0,0)) (by refine zk ?_;exact(Q_BK468 h0_ h1_)) hb))
   clear BK455
   clear BK456
   clear BK457
   clear BK458
   clear HB
   have HO461:=n0_
   have BK455:=n1_
   have BK456:=n2_
   have BK457:=n3_
   have BK458:=n4_
   have HB:=n5_
   clear n0_ n1_ n2_ n3_ n4_ n5_
   (try clear hb)
   (try clear hb2)
   (try clear hk)
   (try clear hi)
   (try clear ho0)
   refine hK.out _ _ ⟨v460,v464,gb467,gb468,(.agg #[v460,.bool t462]),m3_,m4_,m5_,(by rw [ha.out];exact putSel_upk 1 hb_ rfl rfl rfl),(zk BK455.out),(zk BK456.out),(zk BK457.out),(zk BK458.out),zb,Q_NB468_467,Q_NB467_468,fun _=>(by refine zR ?_;exact Kd.R_mono HO461.out (fun _ hk=>by first | exact hk.1 | exact zD hk)),fun h0_=>absurd ((hoff 3 (by kernel_rfl)).symm.trans h0_) (by decide),fun h0_=>absurd ((hoff 3 (by kernel_rfl)).symm.trans h0_) (by decide),fun h0_=>absurd ((hoff 3 (by kernel_rfl)).symm.trans h0_) (by decide),z_BK467,Q_GW467,Q_GE467,Q_NB455_467,Q_NB467_455,Q_NB456_467,Q_NB467_456,Q_NB457_467,Q_NB467_457,Q_NB458_467,Q_NB467_458,z_BK468,Q_GW468,Q_GE468,Q_NB455_468,Q_NB468_455,Q_NB456_468,Q_NB468_456,Q_NB457_468,Q_NB468_457,Q_NB458_468,Q_NB468_458,fun h0_=>absurd ((hoff 6 (by kernel_rfl)).symm.trans h0_) (by decide),fun h0_=>absurd ((hoff 7 (by kernel_rfl)).symm.trans h0_) (by decide),fun _=>rfl,fun h0_=>absurd ((hoff 3 (by kernel_rfl)).symm.trans h0_) (by decide),Q_X4_,Q_X5_⟩
  refine steps_cons ?_ ?_
  ·rintro b a w' ⟨v460,v464,gb467,gb468,m1_,m3_,m4_,m5_,ha,Q_BK455,Q_BK456,Q_BK457,Q_BK458,Q_HB,Q_NB468_467,Q_NB467_468,Q_HO461,Q_HO465,Q_AP461_465,Q_AP465_461,Q_BK467,Q_GW467,Q_GE467,Q_NB455_467,Q_NB467_455,Q_NB456_467,Q_NB467_456,Q_NB457_467,Q_NB467_457,Q_NB458_467,Q_NB467_458,Q_BK468,Q_GW468,Q_GE468,Q_NB455_468,Q_NB468_455,Q_NB456_468,Q_NB468_456,Q_NB457_468,Q_NB468_457,Q_NB458_468,Q_NB468_458,Q_BK467_e6,Q_BK468_e7,Q_X1_,Q_X3_,Q_X4_,Q_X5_⟩ hb_ hon hoff
   refine⟨_,rfl,fun K hK=>?_⟩
   have e3 : a.tmps[3]? = some (.pointer (some ⟨gb456,0,none⟩)):=by rw [ha];exact(putSel_off rfl).trans rfl
   replace ha:=am ha
   have BK455:=am Q_BK455
   have BK456:=am Q_BK456
   have BK457:=am Q_BK457
   have BK458:=am Q_BK458
   have HB:=am Q_HB
   have hc0_ : w'.cell? ⟨gb456,0,none⟩ = some (.bool a1_0):=(blk_cell BK456.out 0).trans rfl
   have hc1_ : w'.cell? ⟨gb456,1,none⟩ = some (.slice A1_1 l1_1.length c1_1):=(blk_cell BK456.out 1).trans rfl
   refine value_ (w1:=w') (v:=.agg #[.bool a1_0,.slice A1_1 l1_1.length c1_1]) (by rfl) rfl ?_ ?_
   ·go_simp
    (try simp only [i64_w])
    try first | rfl |(simp only [bne,Bool.not_not];done) |(simp [bne];done)
   refine hK.out _ _ ⟨v460,v464,gb467,gb468,m1_,m3_,m4_,m5_,(by rw [ha.out];exact putSel_upk 2 hb_ rfl rfl rfl),Q_BK455,Q_BK456,Q_BK457,Q_BK458,Q_HB,Q_NB468_467,Q_NB467_468,Q_HO461,fun h0_=>absurd ((hoff 3 (by kernel_rfl)).symm.trans h0_) (by decide),fun h0_=>absurd ((hoff 3 (by kernel_rfl)).symm.trans h0_) (by decide),fun h0_=>absurd ((hoff 3 (by kernel_rfl)).symm.trans h0_) (by decide),Q_BK467,Q_GW467,Q_GE467,Q_NB455_467,Q_NB467_455,Q_NB456_467,Q_NB467_456,Q_NB457_467,Q_NB467_457,Q_NB458_467,Q_NB467_458,Q_BK468,Q_GW468,Q_GE468,Q_NB455_468,Q_NB468_455,Q_NB456_468,Q_NB468_456,Q_NB457_468,Q_NB468_457,Q_NB458_468,Q_NB468_458,fun h0_=>absurd ((hoff 6 (by kernel_rfl)).symm.trans h0_) (by decide),fun h0_=>absurd ((hoff 7 (by kernel_rfl)).symm.trans h0_) (by decide),Q_X1_,fun h0_=>absurd ((hoff 3 (by kernel_rfl)).symm.trans h0_) (by decide),Q_X4_,Q_X5_⟩
  refine steps_cons ?_ ?_
  ·rintro b a w' ⟨v460,v464,gb467,gb468,m1_,m3_,m4_,m5_,ha,Q_BK455,Q_BK456,Q_BK457,Q_BK458,Q_HB,Q_NB468_467,Q_NB467_468,Q_HO461,Q_HO465,Q_AP461_465,Q_AP465_461,Q_BK467,Q_GW467,Q_GE467,Q_NB455_467,Q_NB467_455,Q_NB456_467,Q_NB467_456,Q_NB457_467,Q_NB467_457,Q_NB458_467,Q_NB467_458,Q_BK468,Q_GW468,Q_GE468,Q_NB455_468,Q_NB468_455,Q_NB456_468,Q_NB468_456,Q_NB457_468,Q_NB468_457,Q_NB458_468,Q_NB468_458,Q_BK467_e6,Q_BK468_e7,Q_X1_,Q_X3_,Q_X4_,Q_X5_⟩ hb_ hon hoff
   refine⟨_,rfl,fun K hK=>?_⟩
   have e16 : a.tmps[16]? = some (.agg #[.bool a1_0,.slice A1_1 l1_1.length c1_1]):=by rw [ha];exact putSel_on (e:=(2,16,.agg #[.bool a1_0,.slice A1_1 l1_1.length c1_1])) 2 rfl rfl (hon 2 (by kernel_rfl)) rfl
   replace ha:=am ha
   have BK455:=am Q_BK455
   have BK456:=am Q_BK456
   have BK457:=am Q_BK457
   have BK458:=am Q_BK458
   have HB:=am Q_HB
   have HO461:=am (Q_HO461 (hon 1 (by kernel_rfl)))
   refine goes_ Tryz.func49 (by kernel_rfl) rfl #[.agg #[.bool a1_0,.slice A1_1 l1_1.length c1_1]] (by rfl) rfl rfl (by first |(simp only [List.map_toArray,List.map_cons,List.map_nil,Act.eval,Array.getD_eq_getD_getElem?,Option.getD_some,e16];done) |(simp only [List.map_toArray,List.map_cons,List.map_nil,Act.eval,Array.getD_eq_getD_getElem?,Option.getD_some,e16];rfl)) ?_
   with_reducible refine(num_of.calls k a1_0 _ _ l1_1 t463 t466 _ ?side1 ?side2 A4.out).mono ?_
   (case side1=>repeat (first | exact(Kd.C_below HR1_1.out HB.out) |(with_reducible refine Kd.C_alloc ?_ _) |(with_reducible refine Kd.C_drewN ?_ _) |(with_reducible refine Kd.C_drew ?_)))
   (case side2=>exact HC1_1.out)
   rintro e w13 ⟨v464,rfl,ho0,hb⟩
   refine⟨_,rfl,?_⟩
   have n0_:=re HO461 (Kd.R_base ho0) hb
   have n1_:=am (Kd.R_lower (Kd.R_new' (Kd.R_newM (M:=fun k_=>(w.heap.size≤k_)) ho0 (below_size zb) (fun k_ h_=>h_)) (Kd.R_lt (zR HO461.out))) (below_size zb))
   have n2_:=kb BK455 hb
   have n3_:=kb BK456 hb
   have n4_:=kb BK457 hb
   have n5_:=kb BK458 hb
   have n6_:=am (below_step zb hb)
   have z_BK467:=fun (h0_ : b 4 = true) (h1_ : b 6 = false)=>(show w13.heap[gb467]? = some (.cells #[.slice none 0 0,.bool false] 54 (0,0)) from by first | exact(blk_below (g:=gb467) (o:=.cells #[.slice none 0 0,.bool false] 54 (0,0)) (by refine zk ?_;exact(Q_BK467 h0_ h1_)) hb))
   have z_BK468:=fun (h0_ : b 5 = true) (h1_ : b 7 = false)=>(show w13.heap[gb468]? = some (.cells #[.slice none 0 0,.bool false] 54 (0,0)) from by first | exact(blk_below (g:=gb468) (o:=.cells #[.slice none 0 0,.bool false] 54 (0,0)) (by refine zk ?_;exact(Q_BK468 h0_ h1_)) hb))
   clear HO461
   clear BK455
   clear BK456
   clear BK457
   clear BK458
   clear HB
   have HO461:=n0_
   have HO465:=n1_
   have BK455:=n2_
   have BK456:=n3_
   have BK457:=n4_
   have BK458:=n5_
   have HB:=n6_
   clear n0_ n1_ n2_ n3_ n4_ n5_ n6_
   (try clear hb)
   (try clear hb2)
   (try clear hk)
   (try clear hi)
   (try clear ho0)
   refine hK.out _ _ ⟨v460,v464,gb467,gb468,m1_,(.agg #[v464,.bool t466]),m4_,m5_,(by rw [ha.out];exact putSel_upk 3 hb_ rfl rfl rfl),(zk BK455.out),(zk BK456.out),(zk BK457.out),(zk BK458.out),zb,Q_NB468_467,Q_NB467_468,fun _=>(by refine zR ?_;first | exact HO461.out | exact Kd.R_mono HO461.out (fun _ hk=>zD hk) | exact Kd.V_mono HO461.out (fun _ hk=>zD hk)),fun _=>(by refine zR ?_;exact Kd.R_mono HO465.out (fun _ hk=>by first | exact⟨hk.1.1,hk.2⟩ | exact zD hk)),fun _=>(fun k_ hk_=>(HO461.out.1 k_ hk_).2),fun _=>(fun k_ hk_=>(HO465.out.1 k_ hk_).2),z_BK467,Q_GW467,Q_GE467,Q_NB455_467,Q_NB467_455,Q_NB456_467,Q_NB467_456,Q_NB457_467,Q_NB467_457,Q_NB458_467,Q_NB467_458,z_BK468,Q_GW468,Q_GE468,Q_NB455_468,Q_NB468_455,Q_NB456_468,Q_NB468_456,Q_NB457_468,Q_NB468_457,Q_NB458_468,Q_NB468_458,fun h0_=>absurd ((hoff 6 (by kernel_rfl)).symm.trans h0_) (by decide),fun h0_=>absurd ((hoff 7 (by kernel_rfl)).symm.trans h0_) (by decide),Q_X1_,fun _=>rfl,Q_X4_,Q_X5_⟩
  refine steps_cons ?_ ?_
  ·rintro b a w' ⟨v460,v464,gb467,gb468,m1_,m3_,m4_,m5_,ha,Q_BK455,Q_BK456,Q_BK457,Q_BK458,Q_HB,Q_NB468_467,Q_NB467_468,Q_HO461,Q_HO465,Q_AP461_465,Q_AP465_461,Q_BK467,Q_GW467,Q_GE467,Q_NB455_467,Q_NB467_455,Q_NB456_467,Q_NB467_456,Q_NB457_467,Q_NB467_457,Q_NB458_467,Q_NB467_458,Q_BK468,Q_GW468,Q_GE468,Q_NB455_468,Q_NB468_455,Q_NB456_468,Q_NB468_456,Q_NB457_468,Q_NB468_457,Q_NB458_468,Q_NB468_458,Q_BK467_e6,Q_BK468_e7,Q_X1_,Q_X3_,Q_X4_,Q_X5_⟩ hb_ hon hoff
   refine⟨_,rfl,fun K hK=>?_⟩
   replace ha:=am ha
   have BK455:=am Q_BK455
   have BK456:=am Q_BK456
   have BK457:=am Q_BK457
   have BK458:=am Q_BK458
   have HB:=am Q_HB
   refine box_step ?hg (N:=7) ?hd (cs:=#[.slice none 0 0,.bool false]) (t:=54) ?hr ?_;(case hd=>rfl);(case hg=>rfl);(case hr=>exact zh)
   intro gb467 hg w11 hbox hb
   have n0_:=kb BK455 hb
   have n1_:=kb BK456 hb
   have n2_:=kb BK457 hb
   have n3_:=kb BK458 hb
   have n4_:=am (below_step zb hb)
   have n5_:=am (hbox)
   have n6_:=gw w hg
   have n7_:=gw w hg
   have n8_:=nl BK455 hg
   have n9_:=nr BK455 hg
   have n10_:=nl BK456 hg
   have n11_:=nr BK456 hg
   have n12_:=nl BK457 hg
   have n13_:=nr BK457 hg
   have n14_:=nl BK458 hg
   have n15_:=nr BK458 hg
   have z_NB468_467:=fun (h0_ : up b 4 4 = true) (h1_ : up b 4 5 = true)=>(show gb468≠gb467 from((by rw [hg];exact Nat.ne_of_lt (blk_lt (g:=gb468) (o:=.cells #[.slice none 0 0,.bool false] 54 (0,0)) (by refine zk ?_;exact(Q_BK468 (by first | exact h1_ | simpa [up] using h1_) (hoff 7 (by kernel_rfl))))) : gb468≠gb467)))
   have z_NB467_468:=fun (h0_ : up b 4 4 = true) (h1_ : up b 4 5 = true)=>(show gb467≠gb468 from((by rw [hg];exact Nat.ne_of_gt (blk_lt (g:=gb468) (o:=.cells #[.slice none 0 0,.bool false] 54 (0,0)) (by refine zk ?_;exact(Q_BK468 (by first | exact h1_ | simpa [up] using h1_) (hoff 7 (by kernel_rfl))))) : gb467≠gb468)))
   have z_HO461:=fun (h0_ : b 1 = true)=>(show Kd.R (Kd.int .u32) 60 w11 w.heap.size (fun k_=>(w.heap.size≤k_)) v460 t459 from by first | exact(Kd.R_below (by refine zR ?_;exact(Q_HO461 h0_)) hb) | exact Kd.R_mono (Kd.R_below (by refine zR ?_;exact(Q_HO461 h0_)) hb) (fun _ h_=>by first | trivial | exact h_ | exact h_.1))
   have z_HO465:=fun (h0_ : b 3 = true)=>(show Kd.R (Kd.int .u32) 60 w11 w.heap.size (fun k_=>(w.heap.size≤k_)) v464 t463 from by first | exact(Kd.R_below (by refine zR ?_;exact(Q_HO465 h0_)) hb) | exact Kd.R_mono (Kd.R_below (by refine zR ?_;exact(Q_HO465 h0_)) hb) (fun _ h_=>by first | trivial | exact h_ | exact h_.1))
   have z_BK468:=fun (h0_ : b 5 = true) (h1_ : b 7 = false)=>(show w11.heap[gb468]? = some (.cells #[.slice none 0 0,.bool false] 54 (0,0)) from by first | exact(blk_below (g:=gb468) (o:=.cells #[.slice none 0 0,.bool false] 54 (0,0)) (by refine zk ?_;exact(Q_BK468 h0_ h1_)) hb))
   clear BK455
   clear BK456
   clear BK457
   clear BK458
   clear HB
   have BK455:=n0_
   have BK456:=n1_
   have BK457:=n2_
   have BK458:=n3_
   have HB:=n4_
   have BK467:=n5_
   have GW467:=n6_
   have GE467:=n7_
   have NB455_467:=n8_
   have NB467_455:=n9_
   have NB456_467:=n10_
   have NB467_456:=n11_
   have NB457_467:=n12_
   have NB467_457:=n13_
   have NB458_467:=n14_
   have NB467_458:=n15_
   clear n0_ n1_ n2_ n3_ n4_ n5_ n6_ n7_ n8_ n9_ n10_ n11_ n12_ n13_ n14_ n15_
   clear hb hbox hg
   refine hK.out _ _ ⟨v460,v464,gb467,gb468,m1_,m3_,(.pointer (some ⟨gb467,0,none⟩)),m5_,(by rw [ha.out];exact putSel_upk 4 hb_ rfl rfl rfl),(zk BK455.out),(zk BK456.out),(zk BK457.out),(zk BK458.out),zb,@z_NB468_467,@z_NB467_468,z_HO461,z_HO465,Q_AP461_465,Q_AP465_461,fun _ _=>(zk BK467.out),fun _=>GW467.out,fun _=>GE467.out,fun _=>NB455_467.out,fun _=>NB467_455.out,fun _=>NB456_467.out,fun _=>NB467_456.out,fun _=>NB457_467.out,fun _=>NB467_457.out,fun _=>NB458_467.out,fun _=>NB467_458.out,z_BK468,Q_GW468,Q_GE468,Q_NB455_468,Q_NB468_455,Q_NB456_468,Q_NB468_456,Q_NB457_468,Q_NB468_457,Q_NB458_468,Q_NB468_458,fun h0_=>absurd ((hoff 6 (by kernel_rfl)).symm.trans h0_) (by decide),fun h0_=>absurd ((hoff 7 (by kernel_rfl)).symm.trans h0_) (by decide),Q_X1_,Q_X3_,fun _=>rfl,Q_X5_⟩
  refine steps_cons ?_ ?_
  ·rintro b a w' ⟨v460,v464,gb467,gb468,m1_,m3_,m4_,m5_,ha,Q_BK455,Q_BK456,Q_BK457,Q_BK458,Q_HB,Q_NB468_467,Q_NB467_468,Q_HO461,Q_HO465,Q_AP461_465,Q_AP465_461,Q_BK467,Q_GW467,Q_GE467,Q_NB455_467,Q_NB467_455,Q_NB456_467,Q_NB467_456,Q_NB457_467,Q_NB467_457,Q_NB458_467,Q_NB467_458,Q_BK468,Q_GW468,Q_GE468,Q_NB455_468,Q_NB468_455,Q_NB456_468,Q_NB468_456,Q_NB457_468,Q_NB468_457,Q_NB458_468,Q_NB468_458,Q_BK467_e6,Q_BK468_e7,Q_X1_,Q_X3_,Q_X4_,Q_X5_⟩ hb_ hon hoff
   refine⟨_,rfl,fun K hK=>?_⟩
   replace ha:=am ha
   have BK455:=am Q_BK455
   have BK456:=am Q_BK456
   have BK457:=am Q_BK457
   have BK458:=am Q_BK458
   have HB:=am Q_HB
   refine box_step ?hg (N:=8) ?hd (cs:=#[.slice none 0 0,.bool false]) (t:=54) ?hr ?_;(case hd=>rfl);(case hg=>rfl);(case hr=>exact zh)
   intro gb468 hg w11 hbox hb
   have n0_:=kb BK455 hb
   have n1_:=kb BK456 hb
   have n2_:=kb BK457 hb
   have n3_:=kb BK458 hb
   have n4_:=am (below_step zb hb)
   have n5_:=am (hbox)
   have n6_:=gw w hg
   have n7_:=gw w hg
   have n8_:=nl BK455 hg
   have n9_:=nr BK455 hg
   have n10_:=nl BK456 hg
   have n11_:=nr BK456 hg
   have n12_:=nl BK457 hg
   have n13_:=nr BK457 hg
   have n14_:=nl BK458 hg
   have n15_:=nr BK458 hg
   have z_NB468_467:=fun (h0_ : up b 5 4 = true) (h1_ : up b 5 5 = true)=>(show gb468≠gb467 from((by rw [hg];exact Nat.ne_of_gt (blk_lt (g:=gb467) (o:=.cells #[.slice none 0 0,.bool false] 54 (0,0)) (by refine zk ?_;exact(Q_BK467 (by first | exact h0_ | simpa [up] using h0_) (hoff 6 (by kernel_rfl))))) : gb468≠gb467)))
   have z_NB467_468:=fun (h0_ : up b 5 4 = true) (h1_ : up b 5 5 = true)=>(show gb467≠gb468 from((by rw [hg];exact Nat.ne_of_lt (blk_lt (g:=gb467) (o:=.cells #[.slice none 0 0,.bool false] 54 (0,0)) (by refine zk ?_;exact(Q_BK467 (by first | exact h0_ | simpa [up] using h0_) (hoff 6 (by kernel_rfl))))) : gb467≠gb468)))
   have z_HO461:=fun (h0_ : b 1 = true)=>(show Kd.R (Kd.int .u32) 60 w11 w.heap.size (fun k_=>(w.heap.size≤k_)) v460 t459 from by first | exact(Kd.R_below (by refine zR ?_;exact(Q_HO461 h0_)) hb) | exact Kd.R_mono (Kd.R_below (by refine zR ?_;exact(Q_HO461 h0_)) hb) (fun _ h_=>by first | trivial | exact h_ | exact h_.1))
   have z_HO465:=fun (h0_ : b 3 = true)=>(show Kd.R (Kd.int .u32) 60 w11 w.heap.size (fun k_=>(w.heap.size≤k_)) v464 t463 from by first | exact(Kd.R_below (by refine zR ?_;exact(Q_HO465 h0_)) hb) | exact Kd.R_mono (Kd.R_below (by refine zR ?_;exact(Q_HO465 h0_)) hb) (fun _ h_=>by first | trivial | exact h_ | exact h_.1))
   have z_BK467:=fun (h0_ : b 4 = true) (h1_ : b 6 = false)=>(show w11.heap[gb467]? = some (.cells #[.slice none 0 0,.bool false] 54 (0,0)) from by first | exact(blk_below (g:=gb467) (o:=.cells #[.slice none 0 0,.bool false] 54 (0,0)) (by refine zk ?_;exact(Q_BK467 h0_ h1_)) hb))
   clear BK455
   clear BK456
   clear BK457
   clear BK458
   clear HB
   have BK455:=n0_
   have BK456:=n1_
   have BK457:=n2_
   have BK458:=n3_
   have HB:=n4_
   have BK468:=n5_
   have GW468:=n6_
   have GE468:=n7_
   have NB455_468:=n8_
   have NB468_455:=n9_
   have NB456_468:=n10_
   have NB468_456:=n11_
   have NB457_468:=n12_
   have NB468_457:=n13_
   have NB458_468:=n14_
   have NB468_458:=n15_
   clear n0_ n1_ n2_ n3_ n4_ n5_ n6_ n7_ n8_ n9_ n10_ n11_ n12_ n13_ n14_ n15_
   clear hb hbox hg
   refine hK.out _ _ ⟨v460,v464,gb467,gb468,m1_,m3_,m4_,(.pointer (some ⟨gb468,0,none⟩)),(by rw [ha.out];exact putSel_upk 5 hb_ rfl rfl rfl),(zk BK455.out),(zk BK456.out),(zk BK457.out),(zk BK458.out),zb,@z_NB468_467,@z_NB467_468,z_HO461,z_HO465,Q_AP461_465,Q_AP465_461,z_BK467,Q_GW467,Q_GE467,Q_NB455_467,Q_NB467_455,Q_NB456_467,Q_NB467_456,Q_NB457_467,Q_NB467_457,Q_NB458_467,Q_NB467_458,fun _ _=>(zk BK468.out),fun _=>GW468.out,fun _=>GE468.out,fun _=>NB455_468.out,fun _=>NB468_455.out,fun _=>NB456_468.out,fun _=>NB468_456.out,fun _=>NB457_468.out,fun _=>NB468_457.out,fun _=>NB458_468.out,fun _=>NB468_458.out,fun h0_=>absurd ((hoff 6 (by kernel_rfl)).symm.trans h0_) (by decide),fun h0_=>absurd ((hoff 7 (by kernel_rfl)).symm.trans h0_) (by decide),Q_X1_,Q_X3_,Q_X4_,fun _=>rfl⟩
  refine steps_cons ?_ ?_
  ·rintro b a w' ⟨v460,v464,gb467,gb468,m1_,m3_,m4_,m5_,ha,Q_BK455,Q_BK456,Q_BK457,Q_BK458,Q_HB,Q_NB468_467,Q_NB467_468,Q_HO461,Q_HO465,Q_AP461_465,Q_AP465_461,Q_BK467,Q_GW467,Q_GE467,Q_NB455_467,Q_NB467_455,Q_NB456_467,Q_NB467_456,Q_NB457_467,Q_NB467_457,Q_NB458_467,Q_NB467_458,Q_BK468,Q_GW468,Q_GE468,Q_NB455_468,Q_NB468_455,Q_NB456_468,Q_NB468_456,Q_NB457_468,Q_NB468_457,Q_NB458_468,Q_NB468_458,Q_BK467_e6,Q_BK468_e7,Q_X1_,Q_X3_,Q_X4_,Q_X5_⟩ hb_ hon hoff
   refine⟨_,rfl,fun K hK=>?_⟩
   have e7 : a.tmps[7]? = some (m4_):=by rw [ha];exact putSel_on (e:=(4,7,m4_)) 4 rfl rfl (hon 4 (by kernel_rfl)) rfl
   rw [Q_X4_ (hon 4 (by kernel_rfl))] at e7
   have e15 : a.tmps[15]? = some (m1_):=by rw [ha];exact putSel_on (e:=(1,15,m1_)) 1 rfl rfl (hon 1 (by kernel_rfl)) rfl
   rw [Q_X1_ (hon 1 (by kernel_rfl))] at e15
   replace ha:=am ha
   have BK455:=am Q_BK455
   have BK456:=am Q_BK456
   have BK457:=am Q_BK457
   have BK458:=am Q_BK458
   have HB:=am Q_HB
   have NB468_467:=am (Q_NB468_467 (hon 4 (by kernel_rfl)) (hon 5 (by kernel_rfl)))
   have NB467_468:=am (Q_NB467_468 (hon 4 (by kernel_rfl)) (hon 5 (by kernel_rfl)))
   have HO461:=am (Q_HO461 (hon 1 (by kernel_rfl)))
   have HO465:=am (Q_HO465 (hon 3 (by kernel_rfl)))
   have AP461_465:=am (Q_AP461_465 (hon 3 (by kernel_rfl)))
   have AP465_461:=am (Q_AP465_461 (hon 3 (by kernel_rfl)))
   have BK467:=am (Q_BK467 (hon 4 (by kernel_rfl)) hb_)
   have GW467:=am (Q_GW467 (hon 4 (by kernel_rfl)))
   have GE467:=am (Q_GE467 (hon 4 (by kernel_rfl)))
   have NB455_467:=am (Q_NB455_467 (hon 4 (by kernel_rfl)))
   have NB467_455:=am (Q_NB467_455 (hon 4 (by kernel_rfl)))
   have NB456_467:=am (Q_NB456_467 (hon 4 (by kernel_rfl)))
   have NB467_456:=am (Q_NB467_456 (hon 4 (by kernel_rfl)))
   have NB457_467:=am (Q_NB457_467 (hon 4 (by kernel_rfl)))
   have NB467_457:=am (Q_NB467_457 (hon 4 (by kernel_rfl)))
   have NB458_467:=am (Q_NB458_467 (hon 4 (by kernel_rfl)))
   have NB467_458:=am (Q_NB467_458 (hon 4 (by kernel_rfl)))
   have BK468:=am (Q_BK468 (hon 5 (by kernel_rfl)) (hoff 7 (by kernel_rfl)))
   have GW468:=am (Q_GW468 (hon 5 (by kernel_rfl)))
   have GE468:=am (Q_GE468 (hon 5 (by kernel_rfl)))
   have NB455_468:=am (Q_NB455_468 (hon 5 (by kernel_rfl)))
   have NB468_455:=am (Q_NB468_455 (hon 5 (by kernel_rfl)))
   have NB456_468:=am (Q_NB456_468 (hon 5 (by kernel_rfl)))
   have NB468_456:=am (Q_NB468_456 (hon 5 (by kernel_rfl)))
   have NB457_468:=am (Q_NB457_468 (hon 5 (by kernel_rfl)))
   have NB468_457:=am (Q_NB468_457 (hon 5 (by kernel_rfl)))
   have NB458_468:=am (Q_NB458_468 (hon 5 (by kernel_rfl)))
   have NB468_458:=am (Q_NB468_458 (hon 5 (by kernel_rfl)))
   obtain⟨Ao9000,co9000,eo9000⟩:=Kd.R_slice HO461.out
   (first | subst eo9000 |(injection eo9000 with f1_ f2_ f3_;have f4_:=f1_.symm;have f5_:=f3_.symm;clear f1_ f2_ f3_;subst f4_;subst f5_))
   have hs16 : w'.cell? ⟨gb467,0,none⟩ = some (.slice none 0 0):=(blk_cell BK467.out 0).trans rfl
   have hfs16:=blk_frozen BK467.out 0
   have hns16_0:=NB455_467.out
   have hns16_1:=NB456_467.out
   have hns16_2:=NB457_467.out
   have hns16_3:=NB458_467.out
   have hns16_5:=NB468_467.out
   have hms16_0:=NB467_455.out
   have hms16_1:=NB467_456.out
   have hms16_2:=NB467_457.out
   have hms16_3:=NB467_458.out
   have hms16_5:=NB467_468.out
   have hs17 : w'.cell? ⟨gb467,1,none⟩ = some (.bool false):=(blk_cell BK467.out 1).trans rfl
   have hfs17:=blk_frozen BK467.out 1
   have hns17_0:=NB455_467.out
   have hns17_1:=NB456_467.out
   have hns17_2:=NB457_467.out
   have hns17_3:=NB458_467.out
   have hns17_5:=NB468_467.out
   have hms17_0:=NB467_455.out
   have hms17_1:=NB467_456.out
   have hms17_2:=NB467_457.out
   have hms17_3:=NB467_458.out
   have hms17_5:=NB467_468.out
   refine skip_ (w1:=?_) (by rfl) rfl ?_ ?_
   rotate_left
   ·go_simp
    rfl
   refine hK.out _ _ ⟨.slice Ao9000 t459.length co9000,v464,gb467,gb468,m1_,m3_,m4_,m5_,(by rw [ha.out];exact putSel_none (v:=undef) rfl),(by refine zk ?_;refine blk_far ?_ NB455_467.out _;refine zk ?_;refine blk_far ?_ NB455_467.out _;refine zk ?_;exact BK455.out),(by refine zk ?_;refine blk_far ?_ NB456_467.out _;refine zk ?_;refine blk_far ?_ NB456_467.out _;refine zk ?_;exact BK456.out),(by refine zk ?_;refine blk_far ?_ NB457_467.out _;refine zk ?_;refine blk_far ?_ NB457_467.out _;refine zk ?_;exact BK457.out),(by refine zk ?_;refine blk_far ?_ NB458_467.out _;refine zk ?_;refine blk_far ?_ NB458_467.out _;refine zk ?_;exact BK458.out),zb,fun _ _=>NB468_467.out,fun _ _=>NB467_468.out,fun _=>(by refine zR ?_;exact Kd.R_mono (Kd.R_far (p:=⟨gb467,1,none⟩) (Kd.R_far (p:=⟨gb467,0,none⟩) (Kd.R_types HO461.out BK467.out (by decide)) (fun _ hk=>hk.2) (.slice Ao9000 t459.length co9000)) (fun _ hk=>hk.2) (.bool t462)) (fun _ hk=>by first | exact⟨hk.1.1,hk.1.2⟩ | exact zD hk)),fun _=>(by refine zR ?_;exact Kd.R_mono (Kd.R_far (p:=⟨gb467,1,none⟩) (Kd.R_far (p:=⟨gb467,0,none⟩) (Kd.R_types HO465.out BK467.out (by decide)) (fun _ hk=>hk.2) (.slice Ao9000 t459.length co9000)) (fun _ hk=>hk.2) (.bool t462)) (fun _ hk=>by first | exact⟨hk.1.1,hk.1.2⟩ | exact zD hk)),fun _=>(by first | exact AP461_465.out | exact(fun k_ hk_=>(HO461.out.1 k_ hk_).2)),fun _=>(by first | exact AP465_461.out | exact(fun k_ hk_=>(HO465.out.1 k_ hk_).2)),fun _ h1_=>absurd ((up_self b 6).symm.trans h1_) (by decide),fun _=>GW467.out,fun _=>GE467.out,fun _=>NB455_467.out,fun _=>NB467_455.out,fun _=>NB456_467.out,fun _=>NB467_456.out,fun _=>NB457_467.out,fun _=>NB467_457.out,fun _=>NB458_467.out,fun _=>NB467_458.out,fun _ _=>(by refine zk ?_;refine blk_far ?_ NB468_467.out _;refine zk ?_;refine blk_far ?_ NB468_467.out _;refine zk ?_;exact BK468.out),fun _=>GW468.out,fun _=>GE468.out,fun _=>NB455_468.out,fun _=>NB468_455.out,fun _=>NB456_468.out,fun _=>NB468_456.out,fun _=>NB457_468.out,fun _=>NB468_457.out,fun _=>NB458_468.out,fun _=>NB468_458.out,fun _=>(by refine zk ?_;refine blk_put (cs:=#[.slice Ao9000 t459.length co9000,.bool false]) ?_ 1 _ rfl;refine zk ?_;refine blk_put (cs:=#[.slice none 0 0,.bool false]) ?_ 0 _ rfl;refine zk ?_;exact BK467.out),fun h0_=>absurd ((hoff 7 (by kernel_rfl)).symm.trans h0_) (by decide),Q_X1_,Q_X3_,Q_X4_,Q_X5_⟩
  refine steps_cons ?_ ?_
  ·rintro b a w' ⟨v460,v464,gb467,gb468,m1_,m3_,m4_,m5_,ha,Q_BK455,Q_BK456,Q_BK457,Q_BK458,Q_HB,Q_NB468_467,Q_NB467_468,Q_HO461,Q_HO465,Q_AP461_465,Q_AP465_461,Q_BK467,Q_GW467,Q_GE467,Q_NB455_467,Q_NB467_455,Q_NB456_467,Q_NB467_456,Q_NB457_467,Q_NB467_457,Q_NB458_467,Q_NB467_458,Q_BK468,Q_GW468,Q_GE468,Q_NB455_468,Q_NB468_455,Q_NB456_468,Q_NB468_456,Q_NB457_468,Q_NB468_457,Q_NB458_468,Q_NB468_458,Q_BK467_e6,Q_BK468_e7,Q_X1_,Q_X3_,Q_X4_,Q_X5_⟩ hb_ hon hoff
   refine⟨_,rfl,fun K hK=>?_⟩
   have e8 : a.tmps[8]? = some (m5_):=by rw [ha];exact putSel_on (e:=(5,8,m5_)) 5 rfl rfl (hon 5 (by kernel_rfl)) rfl
   rw [Q_X5_ (hon 5 (by kernel_rfl))] at e8
   have e17 : a.tmps[17]? = some (m3_):=by rw [ha];exact putSel_on (e:=(3,17,m3_)) 3 rfl rfl (hon 3 (by kernel_rfl)) rfl
   rw [Q_X3_ (hon 3 (by kernel_rfl))] at e17
   replace ha:=am ha
   have BK455:=am Q_BK455
   have BK456:=am Q_BK456
   have BK457:=am Q_BK457
   have BK458:=am Q_BK458
   have HB:=am Q_HB
   have NB468_467:=am (Q_NB468_467 (hon 4 (by kernel_rfl)) (hon 5 (by kernel_rfl)))
   have NB467_468:=am (Q_NB467_468 (hon 4 (by kernel_rfl)) (hon 5 (by kernel_rfl)))
   have HO461:=am (Q_HO461 (hon 1 (by kernel_rfl)))
   have HO465:=am (Q_HO465 (hon 3 (by kernel_rfl)))
   have AP461_465:=am (Q_AP461_465 (hon 3 (by kernel_rfl)))
   have AP465_461:=am (Q_AP465_461 (hon 3 (by kernel_rfl)))
   have GW467:=am (Q_GW467 (hon 4 (by kernel_rfl)))
   have GE467:=am (Q_GE467 (hon 4 (by kernel_rfl)))
   have NB455_467:=am (Q_NB455_467 (hon 4 (by kernel_rfl)))
   have NB467_455:=am (Q_NB467_455 (hon 4 (by kernel_rfl)))
   have NB456_467:=am (Q_NB456_467 (hon 4 (by kernel_rfl)))
   have NB467_456:=am (Q_NB467_456 (hon 4 (by kernel_rfl)))
   have NB457_467:=am (Q_NB457_467 (hon 4 (by kernel_rfl)))
   have NB467_457:=am (Q_NB467_457 (hon 4 (by kernel_rfl)))
   have NB458_467:=am (Q_NB458_467 (hon 4 (by kernel_rfl)))
   have NB467_458:=am (Q_NB467_458 (hon 4 (by kernel_rfl)))
   have BK468:=am (Q_BK468 (hon 5 (by kernel_rfl)) hb_)
   have GW468:=am (Q_GW468 (hon 5 (by kernel_rfl)))
   have GE468:=am (Q_GE468 (hon 5 (by kernel_rfl)))
   have NB455_468:=am (Q_NB455_468 (hon 5 (by kernel_rfl)))
   have NB468_455:=am (Q_NB468_455 (hon 5 (by kernel_rfl)))
   have NB456_468:=am (Q_NB456_468 (hon 5 (by kernel_rfl)))
   have NB468_456:=am (Q_NB468_456 (hon 5 (by kernel_rfl)))
   have NB457_468:=am (Q_NB457_468 (hon 5 (by kernel_rfl)))
   have NB468_457:=am (Q_NB468_457 (hon 5 (by kernel_rfl)))
   have NB458_468:=am (Q_NB458_468 (hon 5 (by kernel_rfl)))
   have NB468_458:=am (Q_NB468_458 (hon 5 (by kernel_rfl)))
   have BK467:=am (Q_BK467_e6 (hon 6 (by kernel_rfl)))
   obtain⟨Ao9001,co9001,eo9001⟩:=Kd.R_slice HO465.out
   (first | subst eo9001 |(injection eo9001 with f1_ f2_ f3_;have f4_:=f1_.symm;have f5_:=f3_.symm;clear f1_ f2_ f3_;subst f4_;subst f5_))
   have hs18 : w'.cell? ⟨gb468,0,none⟩ = some (.slice none 0 0):=(blk_cell BK468.out 0).trans rfl
   have hfs18:=blk_frozen BK468.out 0
   have hns18_0:=NB455_468.out
   have hns18_1:=NB456_468.out
   have hns18_2:=NB457_468.out
   have hns18_3:=NB458_468.out
   have hns18_4:=NB467_468.out
   have hms18_0:=NB468_455.out
   have hms18_1:=NB468_456.out
   have hms18_2:=NB468_457.out
   have hms18_3:=NB468_458.out
   have hms18_4:=NB468_467.out
   have hs19 : w'.cell? ⟨gb468,1,none⟩ = some (.bool false):=(blk_cell BK468.out 1).trans rfl
   have hfs19:=blk_frozen BK468.out 1
   have hns19_0:=NB455_468.out
   have hns19_1:=NB456_468.out
   have hns19_2:=NB457_468.out
   have hns19_3:=NB458_468.out
   have hns19_4:=NB467_468.out
   have hms19_0:=NB468_455.out
   have hms19_1:=NB468_456.out
   have hms19_2:=NB468_457.out
   have hms19_3:=NB468_458.out
   have hms19_4:=NB468_467.out
   refine skip_ (w1:=?_) (by rfl) rfl ?_ ?_
   rotate_left
   ·go_simp
    rfl
   refine hK.out _ _ ⟨v460,.slice Ao9001 t463.length co9001,gb467,gb468,m1_,m3_,m4_,m5_,(by rw [ha.out];exact putSel_none (v:=undef) rfl),(by refine zk ?_;refine blk_far ?_ NB455_468.out _;refine zk ?_;refine blk_far ?_ NB455_468.out _;refine zk ?_;exact BK455.out),(by refine zk ?_;refine blk_far ?_ NB456_468.out _;refine zk ?_;refine blk_far ?_ NB456_468.out _;refine zk ?_;exact BK456.out),(by refine zk ?_;refine blk_far ?_ NB457_468.out _;refine zk ?_;refine blk_far ?_ NB457_468.out _;refine zk ?_;exact BK457.out),(by refine zk ?_;refine blk_far ?_ NB458_468.out _;refine zk ?_;refine blk_far ?_ NB458_468.out _;refine zk ?_;exact BK458.out),zb,fun _ _=>NB468_467.out,fun _ _=>NB467_468.out,fun _=>(by refine zR ?_;exact Kd.R_mono (Kd.R_far (p:=⟨gb468,1,none⟩) (Kd.R_far (p:=⟨gb468,0,none⟩) (Kd.R_types HO461.out BK468.out (by decide)) (fun _ hk=>hk.2) (.slice Ao9001 t463.length co9001)) (fun _ hk=>hk.2) (.bool t466)) (fun _ hk=>by first | exact⟨hk.1.1,hk.1.2⟩ | exact zD hk)),fun _=>(by refine zR ?_;exact Kd.R_mono (Kd.R_far (p:=⟨gb468,1,none⟩) (Kd.R_far (p:=⟨gb468,0,none⟩) (Kd.R_types HO465.out BK468.out (by decide)) (fun _ hk=>hk.2) (.slice Ao9001 t463.length co9001)) (fun _ hk=>hk.2) (.bool t466)) (fun _ hk=>by first | exact⟨hk.1.1,hk.1.2⟩ | exact zD hk)),fun _=>(by first | exact AP461_465.out | exact(fun k_ hk_=>(HO461.out.1 k_ hk_).2)),fun _=>(by first | exact AP465_461.out | exact(fun k_ hk_=>(HO465.out.1 k_ hk_).2)),fun _ h1_=>absurd ((hon 6 (by kernel_rfl)).symm.trans h1_) (by decide),fun _=>GW467.out,fun _=>GE467.out,fun _=>NB455_467.out,fun _=>NB467_455.out,fun _=>NB456_467.out,fun _=>NB467_456.out,fun _=>NB457_467.out,fun _=>NB467_457.out,fun _=>NB458_467.out,fun _=>NB467_458.out,fun _ h1_=>absurd ((up_self b 7).symm.trans h1_) (by decide),fun _=>GW468.out,fun _=>GE468.out,fun _=>NB455_468.out,fun _=>NB468_455.out,fun _=>NB456_468.out,fun _=>NB468_456.out,fun _=>NB457_468.out,fun _=>NB468_457.out,fun _=>NB458_468.out,fun _=>NB468_458.out,fun _=>(by refine zk ?_;refine blk_far ?_ NB467_468.out _;refine zk ?_;refine blk_far ?_ NB467_468.out _;refine zk ?_;exact BK467.out),fun _=>(by refine zk ?_;refine blk_put (cs:=#[.slice Ao9001 t463.length co9001,.bool false]) ?_ 1 _ rfl;refine zk ?_;refine blk_put (cs:=#[.slice none 0 0,.bool false]) ?_ 0 _ rfl;refine zk ?_;exact BK468.out),Q_X1_,Q_X3_,Q_X4_,Q_X5_⟩
  exact steps_nil
 rintro b a w19 hall ⟨v460,v464,gb467,gb468,m1_,m3_,m4_,m5_,ha,Q_BK455,Q_BK456,Q_BK457,Q_BK458,Q_HB,Q_NB468_467,Q_NB467_468,Q_HO461,Q_HO465,Q_AP461_465,Q_AP465_461,Q_BK467,Q_GW467,Q_GE467,Q_NB455_467,Q_NB467_455,Q_NB456_467,Q_NB467_456,Q_NB457_467,Q_NB467_457,Q_NB458_467,Q_NB467_458,Q_BK468,Q_GW468,Q_GE468,Q_NB455_468,Q_NB468_455,Q_NB456_468,Q_NB468_456,Q_NB457_468,Q_NB468_457,Q_NB458_468,Q_NB468_458,Q_BK467_e6,Q_BK468_e7,Q_X1_,Q_X3_,Q_X4_,Q_X5_⟩
 clear BK455 BK456 BK457 BK458 HB
 have hb0_:=hall 0 (by kernel_rfl)
 have hb1_:=hall 1 (by kernel_rfl)
 have hb2_:=hall 2 (by kernel_rfl)
 have hb3_:=hall 3 (by kernel_rfl)
 have hb4_:=hall 4 (by kernel_rfl)
 have hb5_:=hall 5 (by kernel_rfl)
 have hb6_:=hall 6 (by kernel_rfl)
 have hb7_:=hall 7 (by kernel_rfl)
 subst ha
 obtain rfl:=Q_X1_ hb1_
 obtain rfl:=Q_X3_ hb3_
 obtain rfl:=Q_X4_ hb4_
 obtain rfl:=Q_X5_ hb5_
 simp only [putSel,hb0_,hb1_,hb2_,hb3_,hb4_,hb5_,hb6_,hb7_,if_true,Act.put,sA,sZ,sS]
 have BK455:=am Q_BK455
 clear Q_BK455
 have BK456:=am Q_BK456
 clear Q_BK456
 have BK457:=am Q_BK457
 clear Q_BK457
 have BK458:=am Q_BK458
 clear Q_BK458
 have HB:=am Q_HB
 clear Q_HB
 have NB468_467:=am (Q_NB468_467 hb4_ hb5_)
 clear Q_NB468_467
 have NB467_468:=am (Q_NB467_468 hb4_ hb5_)
 clear Q_NB467_468
 have HO461:=am (Q_HO461 hb1_)
 clear Q_HO461
 have HO465:=am (Q_HO465 hb3_)
 clear Q_HO465
 have AP461_465:=am (Q_AP461_465 hb3_)
 clear Q_AP461_465
 have AP465_461:=am (Q_AP465_461 hb3_)
 clear Q_AP465_461
 clear Q_BK467
 have GW467:=am (Q_GW467 hb4_)
 clear Q_GW467
 have GE467:=am (Q_GE467 hb4_)
 clear Q_GE467
 have NB455_467:=am (Q_NB455_467 hb4_)
 clear Q_NB455_467
 have NB467_455:=am (Q_NB467_455 hb4_)
 clear Q_NB467_455
 have NB456_467:=am (Q_NB456_467 hb4_)
 clear Q_NB456_467
 have NB467_456:=am (Q_NB467_456 hb4_)
 clear Q_NB467_456
 have NB457_467:=am (Q_NB457_467 hb4_)
 clear Q_NB457_467
 have NB467_457:=am (Q_NB467_457 hb4_)
 clear Q_NB467_457
 have NB458_467:=am (Q_NB458_467 hb4_)
 clear Q_NB458_467
 have NB467_458:=am (Q_NB467_458 hb4_)
 clear Q_NB467_458
 clear Q_BK468
 have GW468:=am (Q_GW468 hb5_)
 clear Q_GW468
 have GE468:=am (Q_GE468 hb5_)
 clear Q_GE468
 have NB455_468:=am (Q_NB455_468 hb5_)
 clear Q_NB455_468
 have NB468_455:=am (Q_NB468_455 hb5_)
 clear Q_NB468_455
 have NB456_468:=am (Q_NB456_468 hb5_)
 clear Q_NB456_468
 have NB468_456:=am (Q_NB468_456 hb5_)
 clear Q_NB468_456
 have NB457_468:=am (Q_NB457_468 hb5_)
 clear Q_NB457_468
 have NB468_457:=am (Q_NB468_457 hb5_)
 clear Q_NB468_457
 have NB458_468:=am (Q_NB458_468 hb5_)
 clear Q_NB458_468
 have NB468_458:=am (Q_NB468_458 hb5_)
 clear Q_NB468_458
 have BK467:=am (Q_BK467_e6 hb6_)
 clear Q_BK467_e6
 have BK468:=am (Q_BK468_e7 hb7_)
 clear Q_BK468_e7
 clear hall hb0_ hb1_ hb2_ hb3_ hb4_ hb5_ hb6_ hb7_
 replace HO461:=am (show Kd.R (Kd.int .u32) 60 w19 w.heap.size (fun k_=>(w.heap.size≤k_)∧some k_≠(v464 : Value).ownBlock) v460 t459 from R_re HO461.out (fun k_ h_=>by have h0_:=HO461.out.1 k_ h_;(repeat' apply And.intro) <;> first | exact zD h0_ | exact AP461_465.out k_ h_))
 replace HO465:=am (show Kd.R (Kd.int .u32) 60 w19 w.heap.size (fun k_=>(w.heap.size≤k_)∧some k_≠(v460 : Value).ownBlock) v464 t463 from R_re HO465.out (fun k_ h_=>by have h0_:=HO465.out.1 k_ h_;(repeat' apply And.intro) <;> first | exact zD h0_ | exact AP465_461.out k_ h_))
 go_upto_region 2 with(fail)
 go_cut [9,10,11] (fun v9 v10 v11 wc=>∃ (kq : Nat) (x9_4 : List Int) (x10_4 : List Int) (x11_4 : Bool),v11 = .bool x11_4∧Aside0 (num_DivMod.j0 kq x9_4 x10_4 x11_4 false false t459 t462 t463 t466 = some (r1,r2,r3,r4,r5))∧Aside0 (kq≤k)∧Aside0 (Kd.R (Kd.int .u32) 60 wc w.heap.size (fun k_=>(w.heap.size≤k_)∧some k_≠(v10 : Value).ownBlock∧some k_≠(v460 : Value).ownBlock∧some k_≠(v464 : Value).ownBlock) v9 x9_4)∧Aside0 (Kd.R (Kd.int .u32) 60 wc w.heap.size (fun k_=>(w.heap.size≤k_)∧some k_≠(v9 : Value).ownBlock∧some k_≠(v460 : Value).ownBlock∧some k_≠(v464 : Value).ownBlock) v10 x10_4)∧Aside0 (Kd.R (Kd.int .u32) 60 wc w.heap.size (fun k_=>(w.heap.size≤k_)∧some k_≠(v9 : Value).ownBlock∧some k_≠(v10 : Value).ownBlock∧some k_≠(v464 : Value).ownBlock) v460 t459)∧Aside0 (Kd.R (Kd.int .u32) 60 wc w.heap.size (fun k_=>(w.heap.size≤k_)∧some k_≠(v9 : Value).ownBlock∧some k_≠(v10 : Value).ownBlock∧some k_≠(v460 : Value).ownBlock) v464 t463)∧Aside0 (wc.heap[gb455]? = some (.cells #[.bool a0_0,(.slice A0_1 l0_1.length c0_1)] 25 (0,0)))∧Aside0 (wc.heap[gb456]? = some (.cells #[.bool a1_0,(.slice A1_1 l1_1.length c1_1)] 25 (0,0)))∧Aside0 (wc.heap[gb457]? = some (.cells #[.bool false,(.slice none 0 0)] 25 (0,0)))∧Aside0 (wc.heap[gb458]? = some (.cells #[.bool false,(.slice none 0 0)] 25 (0,0)))∧Aside0 (wc.heap[gb467]? = some (.cells #[v460,.bool t462] 54 (0,0)))∧Aside0 (wc.heap[gb468]? = some (.cells #[v464,.bool t466] 54 (0,0)))∧Aside0 (Below w.heap.size w wc))
 case first=>
  have H:=HC5.out
  clear HC5
  replace H:=Option.bind_eq_some_iff.mp H
  obtain⟨⟨t469,t470,t471⟩,A200,H⟩:=H
  try dsimp only at H
  have A20:=am A200
  clear A200
  have H':=am H
  clear H
  have hnb21:=NB467_455.out
  have hnc21:=NB455_467.out
  have hnb22:=NB467_456.out
  have hnc22:=NB456_467.out
  have hnb23:=NB467_457.out
  have hnc23:=NB457_467.out
  have hnb24:=NB467_458.out
  have hnc24:=NB458_467.out
  have hnb25:=NB467_468.out
  have hnc25:=NB468_467.out
  have hcz26_0 : w19.cell? ⟨gb467,0,none⟩ = some (v460):=(blk_cell BK467.out 0).trans rfl
  have hcz26_1 : w19.cell? ⟨gb467,1,none⟩ = some (.bool t462):=(blk_cell BK467.out 1).trans rfl
  have hfz26_0:=blk_frozen BK467.out 0
  have hfz26_1:=blk_frozen BK467.out 1
  have hnb27:=NB468_455.out
  have hnc27:=NB455_468.out
  have hnb28:=NB468_456.out
  have hnc28:=NB456_468.out
  have hnb29:=NB468_457.out
  have hnc29:=NB457_468.out
  have hnb30:=NB468_458.out
  have hnc30:=NB458_468.out
  have hcz31_0 : w19.cell? ⟨gb468,0,none⟩ = some (v464):=(blk_cell BK468.out 0).trans rfl
  have hcz31_1 : w19.cell? ⟨gb468,1,none⟩ = some (.bool t466):=(blk_cell BK468.out 1).trans rfl
  have hfz31_0:=blk_frozen BK468.out 0
  have hfz31_1:=blk_frozen BK468.out 1
  obtain⟨Ao9000,co9000,eo9000⟩:=Kd.R_slice HO461.out
  subst eo9000
  obtain⟨Ao9001,co9001,eo9001⟩:=Kd.R_slice HO465.out
  subst eo9001
  go_wp2_with (first |((with_reducible refine gate_callee (f:=45) rfl ?_);refine goesL_ (some 25) rfl rfl Tryz.func45 (by kernel_rfl) rfl #[.slice Ao9000 t459.length co9000,.slice Ao9001 t463.length co9001] rfl zl ?_;(with_reducible refine(nat_DivMod.calls k _ _ t459 _ _ t463 t469 t470 t471 _ ?side1 ?side2 ?side3 ?side4 A20.out).mono ?_);(case side1=>exact zC (Kd.R_reads' HO461.out).2.2);(case side2=>exact(Kd.R_reads' HO461.out).2.1);(case side3=>exact zC (Kd.R_reads' HO465.out).2.2);(case side4=>exact(Kd.R_reads' HO465.out).2.1);rintro e w32 ⟨v472,v474,rfl,ho0,ho1,hb⟩;refine⟨_,rfl,?_⟩;have HO473:=am (Kd.R_lower (Kd.R_new' (Kd.R_new' (Kd.R_newM (M:=fun k_=>(w.heap.size≤k_)) ho0 (below_size zb) (fun k_ h_=>h_)) (Kd.R_lt (zR HO461.out))) (Kd.R_lt (zR HO465.out))) (below_size zb));have HO475:=am (Kd.R_lower (Kd.R_new' (Kd.R_new' (Kd.R_newM (M:=fun k_=>(w.heap.size≤k_)) ho1 (below_size zb) (fun k_ h_=>h_)) (Kd.R_lt (zR HO461.out))) (Kd.R_lt (zR HO465.out))) (below_size zb));replace HO461:=am (Kd.R_mono (Kd.R_told (Kd.R_told (Kd.R_old (zR HO461.out) hb) (Kd.R_base ho0)) (Kd.R_base ho1)) (fun _ h_=>h_.1));replace HO465:=am (Kd.R_mono (Kd.R_told (Kd.R_told (Kd.R_old (zR HO465.out) hb) (Kd.R_base ho0)) (Kd.R_base ho1)) (fun _ h_=>h_.1));replace BK455:=kb BK455 hb;replace BK456:=kb BK456 hb;replace BK457:=kb BK457 hb;replace BK458:=kb BK458 hb;replace BK467:=kb BK467 hb;replace BK468:=kb BK468 hb;replace HB:=am (below_step zb hb);(try clear hb);(try clear ho0);(try clear ho1)))
  go_meet
  case rel=>exact⟨_,(t469),(t470),(t471),ze,H',⟨zo⟩,⟨by refine zR ?_;exact Kd.R_mono HO473.out (fun _ hk=>by first | exact⟨hk.1.1.1,⟨hk.1.1.2,⟨hk.1.2,hk.2⟩⟩⟩ | exact zD hk)⟩,⟨by refine zR ?_;exact Kd.R_mono HO475.out (fun _ hk=>by first | exact⟨hk.1.1.1,⟨hk.1.1.2,⟨hk.1.2,hk.2⟩⟩⟩ | exact zD hk)⟩,⟨by refine zR ?_;exact Kd.R_mono HO461.out (fun _ hk=>by first | exact⟨hk.1.1.1,⟨hk.1.2,⟨hk.2,hk.1.1.2⟩⟩⟩ | exact zD hk)⟩,⟨by refine zR ?_;exact Kd.R_mono HO465.out (fun _ hk=>by first | exact⟨hk.1.1.1,⟨hk.1.2,⟨hk.2,hk.1.1.2⟩⟩⟩ | exact zD hk)⟩,⟨zk BK455.out⟩,⟨zk BK456.out⟩,⟨zk BK457.out⟩,⟨zk BK458.out⟩,⟨zk BK467.out⟩,⟨zk BK468.out⟩,⟨zb⟩⟩
 case rest=>
  clear HC5
  try clear c1
  try clear c2
  try clear p2
  try clear c3
  try clear c4
  try clear c21
  try clear c22
  try clear c23
  try clear c24
  try clear c25
  try clear c26
  try clear c27
  try clear c28
  try clear c29
  try clear c30
  try clear hcz26_0
  try clear hcz26_1
  try clear hcz31_0
  try clear hcz31_1
  try clear hfz26_0
  try clear hfz26_1
  try clear hfz31_0
  try clear hfz31_1
  obtain⟨kq,x9_4,x10_4,x11_4,rfl,HA,HJ4,HO_9,HO_10,HO_468000,HO_469000,BK455,BK456,BK457,BK458,BK467,BK468,HB⟩:=hcut
  cases kq with
  | zero=>exact absurd HA.out (by simp [num_DivMod.j0])
  | succ kj4=>
   have H:=HA.out
   clear HA
   simp only [num_DivMod.j0] at H
   by_cases c33 : x11_4 = true
   ·subst c33
    have H1 : ((num_made.f kj4 x9_4 (t462 != t466)).bind fun bt476=>((num_made.f kj4 x10_4 t466).bind fun bt480=>(if (t462 != t466) = true then((num_size_zero.f bt480.1).bind fun t486=>(num_DivMod.j1 kj4 (!t486) t463 t466 bt476.1 bt476.2 bt480.1 bt480.2)) else(num_DivMod.j1 kj4 false t463 t466 bt476.1 bt476.2 bt480.1 bt480.2)))) = some (r1,r2,r3,r4,r5):=by rw [if_pos rfl] at H;exact H
    clear H
    have H:=H1
    clear H1
    replace H:=Option.bind_eq_some_iff.mp H
    obtain⟨⟨t476,t479⟩,A340,H⟩:=H
    try dsimp only at H
    have A34:=am A340
    clear A340
    replace H:=Option.bind_eq_some_iff.mp H
    obtain⟨⟨t480,t483⟩,A350,H⟩:=H
    try dsimp only at H
    have A35:=am A350
    clear A350
    have HC36:=am H
    clear H
    obtain⟨Ao9002,co9002,eo9002⟩:=Kd.R_slice HO_9.out
    subst eo9002
    obtain⟨Ao9003,co9003,eo9003⟩:=Kd.R_slice HO_10.out
    subst eo9003
    try go_wp2
    replace HO_9:=am (Kd.R_drew HO_9.out)
    replace HO_10:=am (Kd.R_drew HO_10.out)
    replace HO_468000:=am (Kd.R_drew HO_468000.out)
    replace HO_469000:=am (Kd.R_drew HO_469000.out)
    replace BK455:=am (blk_drew BK455.out)
    replace BK456:=am (blk_drew BK456.out)
    replace BK457:=am (blk_drew BK457.out)
    replace BK458:=am (blk_drew BK458.out)
    replace BK467:=am (blk_drew BK467.out)
    replace BK468:=am (blk_drew BK468.out)
    replace HB:=am (below_drew1 HB.out)
    refine start_ (n:=15) (S:=fun w'=>True) (ds:=[]) #[ff,ff,ff,ff,ff,ff,ff,ff,ff,ff,ff,ff,ff,ff,ff] (by kernel_rfl) rfl rfl trivial (fun hHeld=>?_);refine with_tabW num_DivMod.tab5 num_DivMod.bits5 (fun HT_ HW_=>?_)
    generalize wc.drew = w37 at HO_9 HO_10 HO_468000 HO_469000 BK455 BK456 BK457 BK458 BK467 BK468 HB hHeld ⊢
    refine pu (i:=0) (N:=some 33) #[tt,ff,ff,ff,ff,ff,ff,ff,ff,ff,ff,ff,ff,ff,ff] (any_of HT_.out (by kernel_rfl)) ?_
    refine pu (i:=1) (N:=some 34) #[tt,tt,ff,ff,ff,ff,ff,ff,ff,ff,ff,ff,ff,ff,ff] (any_of HT_.out (by kernel_rfl)) ?_
    refine pu (i:=3) (N:=some 36) #[tt,tt,ff,tt,ff,ff,ff,ff,ff,ff,ff,ff,ff,ff,ff] (any_of HT_.out (by kernel_rfl)) ?_
    refine pu (i:=7) (N:=some 40) #[tt,tt,ff,tt,ff,ff,ff,tt,ff,ff,ff,ff,ff,ff,ff] (any_of HT_.out (by kernel_rfl)) ?_
    refine pu (i:=8) (N:=some 41) #[tt,tt,ff,tt,ff,ff,ff,tt,tt,ff,ff,ff,ff,ff,ff] (any_of HT_.out (by kernel_rfl)) ?_
    refine inv_at [2,4,5,6,9,10,11,12,13,14] (fun a0_ b a w'=>∃ (v477 : Value) (v481 : Value) (gb484 : Nat) (gb485 : Nat) (m6_ : Value) (m10_ : Value) (m11_ : Value) (m12_ : Value),a = putSel a0_ b [(2,35,.bool t462),(4,37,.bool t466),(5,38,.bool (t462 != t466)),(6,39,m6_),(9,42,.bool t466),(10,43,m10_),(11,12,m11_),(12,13,m12_)]∧(Kd.R (Kd.int .u32) 60 w' w.heap.size (fun k_=>(w.heap.size≤k_)∧some k_≠(v460 : Value).ownBlock∧some k_≠(v464 : Value).ownBlock∧some k_≠(.slice Ao9002 x9_4.length co9002 : Value).ownBlock) (.slice Ao9003 x10_4.length co9003) x10_4)∧(Kd.R (Kd.int .u32) 60 w' w.heap.size (fun k_=>(w.heap.size≤k_)∧some k_≠(.slice Ao9003 x10_4.length co9003 : Value).ownBlock∧some k_≠(v464 : Value).ownBlock∧some k_≠(.slice Ao9002 x9_4.length co9002 : Value).ownBlock) v460 t459)∧(Kd.R (Kd.int .u32) 60 w' w.heap.size (fun k_=>(w.heap.size≤k_)∧some k_≠(.slice Ao9003 x10_4.length co9003 : Value).ownBlock∧some k_≠(v460 : Value).ownBlock∧some k_≠(.slice Ao9002 x9_4.length co9002 : Value).ownBlock) v464 t463)∧(Kd.R (Kd.int .u32) 60 w' w.heap.size (fun k_=>(w.heap.size≤k_)∧some k_≠(.slice Ao9003 x10_4.length co9003 : Value).ownBlock∧some k_≠(v460 : Value).ownBlock∧some k_≠(v464 : Value).ownBlock) (.slice Ao9002 x9_4.length co9002) x9_4)∧(w'.heap[gb455]? = some (.cells #[.bool a0_0,.slice A0_1 l0_1.length c0_1] 25 (0,0)))∧(w'.heap[gb456]? = some (.cells #[.bool a1_0,.slice A1_1 l1_1.length c1_1] 25 (0,0)))∧(w'.heap[gb457]? = some (.cells #[.bool false,.slice none 0 0] 25 (0,0)))∧(w'.heap[gb458]? = some (.cells #[.bool false,.slice none 0 0] 25 (0,0)))∧(w'.heap[gb467]? = some (.cells #[v460,.bool t462] 54 (0,0)))∧(w'.heap[gb468]? = some (.cells #[v464,.bool t466] 54 (0,0)))∧(Below w.heap.size w w')∧(b 11 = true→b 12 = true→gb485≠gb484)∧(b 11 = true→b 12 = true→gb484≠gb485)∧(b 6 = true→Kd.R (Kd.int .u32) 60 w' w.heap.size (fun k_=>(w.heap.size≤k_)∧some k_≠(.slice Ao9003 x10_4.length co9003 : Value).ownBlock∧some k_≠(v460 : Value).ownBlock∧some k_≠(v464 : Value).ownBlock∧some k_≠(.slice Ao9002 x9_4.length co9002 : Value).ownBlock) v477 t476)∧(b 6 = true→∀ k_,(.slice Ao9003 x10_4.length co9003 : Value).ownBlock = some k_→some k_≠(v477 : Value).ownBlock)∧(b 6 = true→∀ k_,(v460 : Value).ownBlock = some k_→some k_≠(v477 : Value).ownBlock)∧(b 6 = true→∀ k_,(v464 : Value).ownBlock = some k_→some k_≠(v477 : Value).ownBlock)∧(b 6 = true→∀ k_,(.slice Ao9002 x9_4.length co9002 : Value).ownBlock = some k_→some k_≠(v477 : Value).ownBlock)∧(b 10 = true→Kd.R (Kd.int .u32) 60 w' w.heap.size (fun k_=>(w.heap.size≤k_)∧some k_≠(.slice Ao9003 x10_4.length co9003 : Value).ownBlock∧some k_≠(v460 : Value).ownBlock∧some k_≠(v464 : Value).ownBlock∧some k_≠(.slice Ao9002 x9_4.length co9002 : Value).ownBlock) v481 t480)∧(b 10 = true→∀ k_,(v477 : Value).ownBlock = some k_→some k_≠(v481 : Value).ownBlock)∧(b 10 = true→∀ k_,(v481 : Value).ownBlock = some k_→some k_≠(v477 : Value).ownBlock)∧(b 10 = true→∀ k_,(.slice Ao9003 x10_4.length co9003 : Value).ownBlock = some k_→some k_≠(v481 : Value).ownBlock)∧(b 10 = true→∀ k_,(v460 : Value).ownBlock = some k_→some k_≠(v481 : Value).ownBlock)∧(b 10 = true→∀ k_,(v464 : Value).ownBlock = some k_→some k_≠(v481 : Value).ownBlock)∧(b 10 = true→∀ k_,(.slice Ao9002 x9_4.length co9002 : Value).ownBlock = some k_→some k_≠(v481 : Value).ownBlock)∧(b 11 = true→b 13 = false→w'.heap[gb484]? = some (.cells #[.slice none 0 0,.bool false] 54 (0,0)))∧(b 11 = true→w.heap.size≤gb484)∧(b 11 = true→w.heap.size≤gb484)∧(b 11 = true→gb455≠gb484)∧(b 11 = true→gb484≠gb455)∧(b 11 = true→gb456≠gb484)∧(b 11 = true→gb484≠gb456)∧(b 11 = true→gb457≠gb484)∧(b 11 = true→gb484≠gb457)∧(b 11 = true→gb458≠gb484)∧(b 11 = true→gb484≠gb458)∧(b 11 = true→gb467≠gb484)∧(b 11 = true→gb484≠gb467)∧(b 11 = true→gb468≠gb484)∧(b 11 = true→gb484≠gb468)∧(b 12 = true→b 14 = false→w'.heap[gb485]? = some (.cells #[.slice none 0 0,.bool false] 54 (0,0)))∧(b 12 = true→w.heap.size≤gb485)∧(b 12 = true→w.heap.size≤gb485)∧(b 12 = true→gb455≠gb485)∧(b 12 = true→gb485≠gb455)∧(b 12 = true→gb456≠gb485)∧(b 12 = true→gb485≠gb456)∧(b 12 = true→gb457≠gb485)∧(b 12 = true→gb485≠gb457)∧(b 12 = true→gb458≠gb485)∧(b 12 = true→gb485≠gb458)∧(b 12 = true→gb467≠gb485)∧(b 12 = true→gb485≠gb467)∧(b 12 = true→gb468≠gb485)∧(b 12 = true→gb485≠gb468)∧(b 13 = true→w'.heap[gb484]? = some (.cells #[v477,.bool t479] 54 (0,0)))∧(b 14 = true→w'.heap[gb485]? = some (.cells #[v481,.bool t483] 54 (0,0)))∧(b 6 = true→(m6_ : Value) = .agg #[v477,.bool t479])∧(b 10 = true→(m10_ : Value) = .agg #[v481,.bool t483])∧(b 11 = true→(m11_ : Value) = .pointer (some ⟨gb484,0,none⟩))∧(b 12 = true→(m12_ : Value) = .pointer (some ⟨gb485,0,none⟩))) HT_.out HW_.out (by kernel_rfl) (by kernel_rfl) ?_ ?_ ?_
    ·exact⟨.bool false,.bool false,0,0,.bool false,.bool false,.bool false,.bool false,by simp only [putSel,Bool.false_eq_true,if_false],(by first | exact HO_10.out | exact Kd.R_mono HO_10.out (fun _ h_=>zD h_) | exact Kd.V_mono HO_10.out (fun _ h_=>zD h_)),(by first | exact HO_468000.out | exact Kd.R_mono HO_468000.out (fun _ h_=>zD h_) | exact Kd.V_mono HO_468000.out (fun _ h_=>zD h_)),(by first | exact HO_469000.out | exact Kd.R_mono HO_469000.out (fun _ h_=>zD h_) | exact Kd.V_mono HO_469000.out (fun _ h_=>zD h_)),(by first | exact HO_9.out | exact Kd.R_mono HO_9.out (fun _ h_=>zD h_) | exact Kd.V_mono HO_9.out (fun _ h_=>zD h_)),BK455.out,BK456.out,BK457.out,BK458.out,BK467.out,BK468.out,HB.out,fun h_=>absurd h_ (by decide),fun h_=>absurd h_ (by decide),fun h_=>absurd h_ (by decide),fun h_=>absurd h_ (by decide),fun h_=>absurd h_ (by decide),fun h_=>absurd h_ (by decide),fun h_=>absurd h_ (by decide),fun h_=>absurd h_ (by decide),fun h_=>absurd h_ (by decide),fun h_=>absurd h_ (by decide),fun h_=>absurd h_ (by decide),fun h_=>absurd h_ (by decide),fun h_=>absurd h_ (by decide),fun h_=>absurd h_ (by decide),fun h_=>absurd h_ (by decide),fun h_=>absurd h_ (by decide),fun h_=>absurd h_ (by decide),fun h_=>absurd h_ (by decide),fun h_=>absurd h_ (by decide),fun h_=>absurd h_ (by decide),fun h_=>absurd h_ (by decide),fun h_=>absurd h_ (by decide),fun h_=>absurd h_ (by decide),fun h_=>absurd h_ (by decide),fun h_=>absurd h_ (by decide),fun h_=>absurd h_ (by decide),fun h_=>absurd h_ (by decide),fun h_=>absurd h_ (by decide),fun h_=>absurd h_ (by decide),fun h_=>absurd h_ (by decide),fun h_=>absurd h_ (by decide),fun h_=>absurd h_ (by decide),fun h_=>absurd h_ (by decide),fun h_=>absurd h_ (by decide),fun h_=>absurd h_ (by decide),fun h_=>absurd h_ (by decide),fun h_=>absurd h_ (by decide),fun h_=>absurd h_ (by decide),fun h_=>absurd h_ (by decide),fun h_=>absurd h_ (by decide),fun h_=>absurd h_ (by decide),fun h_=>absurd h_ (by decide),fun h_=>absurd h_ (by decide),fun h_=>absurd h_ (by decide),fun h_=>absurd h_ (by decide),fun h_=>absurd h_ (by decide),fun h_=>absurd h_ (by decide),fun h_=>absurd h_ (by decide),fun h_=>absurd h_ (by decide),fun h_=>absurd h_ (by decide)⟩
    ·skip
     clear BK455 BK456 BK457 BK458 BK467 BK468 HB HO_10 HO_468000 HO_469000 HO_9
     refine steps_cons ?_ ?_
     ·rintro b a w' ⟨v477,v481,gb484,gb485,m6_,m10_,m11_,m12_,ha,Q_HO_10,Q_HO_468000,Q_HO_469000,Q_HO_9,Q_BK455,Q_BK456,Q_BK457,Q_BK458,Q_BK467,Q_BK468,Q_HB,Q_NB485_484,Q_NB484_485,Q_HO478,Q_AP_10_478,Q_AP_468000_478,Q_AP_469000_478,Q_AP_9_478,Q_HO482,Q_AP478_482,Q_AP482_478,Q_AP_10_482,Q_AP_468000_482,Q_AP_469000_482,Q_AP_9_482,Q_BK484,Q_GW484,Q_GE484,Q_NB455_484,Q_NB484_455,Q_NB456_484,Q_NB484_456,Q_NB457_484,Q_NB484_457,Q_NB458_484,Q_NB484_458,Q_NB467_484,Q_NB484_467,Q_NB468_484,Q_NB484_468,Q_BK485,Q_GW485,Q_GE485,Q_NB455_485,Q_NB485_455,Q_NB456_485,Q_NB485_456,Q_NB457_485,Q_NB485_457,Q_NB458_485,Q_NB485_458,Q_NB467_485,Q_NB485_467,Q_NB468_485,Q_NB485_468,Q_BK484_e13,Q_BK485_e14,Q_X6_,Q_X10_,Q_X11_,Q_X12_⟩ hb_ hon hoff
      refine⟨_,rfl,fun K hK=>?_⟩
      have e34 : a.tmps[34]? = some (.pointer (some ⟨gb467,1,none⟩)):=by rw [ha];exact(putSel_off rfl).trans rfl
      replace ha:=am ha
      have HO_10:=am Q_HO_10
      have HO_468000:=am Q_HO_468000
      have HO_469000:=am Q_HO_469000
      have HO_9:=am Q_HO_9
      have BK455:=am Q_BK455
      have BK456:=am Q_BK456
      have BK457:=am Q_BK457
      have BK458:=am Q_BK458
      have BK467:=am Q_BK467
      have BK468:=am Q_BK468
      have HB:=am Q_HB
      have hc0_ : w'.cell? ⟨gb467,0,none⟩ = some (v460):=(blk_cell BK467.out 0).trans rfl
      have hc1_ : w'.cell? ⟨gb467,1,none⟩ = some (.bool t462):=(blk_cell BK467.out 1).trans rfl
      refine value_ (w1:=w') (v:=.bool t462) (by rfl) rfl ?_ ?_
      ·go_simp
       (try simp only [i64_w])
       try first | rfl |(simp only [bne,Bool.not_not];done) |(simp [bne];done)
      refine hK.out _ _ ⟨v477,v481,gb484,gb485,m6_,m10_,m11_,m12_,(by rw [ha.out];exact putSel_upk 0 hb_ rfl rfl rfl),Q_HO_10,Q_HO_468000,Q_HO_469000,Q_HO_9,Q_BK455,Q_BK456,Q_BK457,Q_BK458,Q_BK467,Q_BK468,Q_HB,Q_NB485_484,Q_NB484_485,fun h0_=>absurd ((hoff 6 (by kernel_rfl)).symm.trans h0_) (by decide),fun h0_=>absurd ((hoff 6 (by kernel_rfl)).symm.trans h0_) (by decide),fun h0_=>absurd ((hoff 6 (by kernel_rfl)).symm.trans h0_) (by decide),fun h0_=>absurd ((hoff 6 (by kernel_rfl)).symm.trans h0_) (by decide),fun h0_=>absurd ((hoff 6 (by kernel_rfl)).symm.trans h0_) (by decide),fun h0_=>absurd ((hoff 10 (by kernel_rfl)).symm.trans h0_) (by decide),fun h0_=>absurd ((hoff 10 (by kernel_rfl)).symm.trans h0_) (by decide),fun h0_=>absurd ((hoff 10 (by kernel_rfl)).symm.trans h0_) (by decide),fun h0_=>absurd ((hoff 10 (by kernel_rfl)).symm.trans h0_) (by decide),fun h0_=>absurd ((hoff 10 (by kernel_rfl)).symm.trans h0_) (by decide),fun h0_=>absurd ((hoff 10 (by kernel_rfl)).symm.trans h0_) (by decide),fun h0_=>absurd ((hoff 10 (by kernel_rfl)).symm.trans h0_) (by decide),Q_BK484,Q_GW484,Q_GE484,Q_NB455_484,Q_NB484_455,Q_NB456_484,Q_NB484_456,Q_NB457_484,Q_NB484_457,Q_NB458_484,Q_NB484_458,Q_NB467_484,Q_NB484_467,Q_NB468_484,Q_NB484_468,Q_BK485,Q_GW485,Q_GE485,Q_NB455_485,Q_NB485_455,Q_NB456_485,Q_NB485_456,Q_NB457_485,Q_NB485_457,Q_NB458_485,Q_NB485_458,Q_NB467_485,Q_NB485_467,Q_NB468_485,Q_NB485_468,fun h0_=>absurd ((hoff 13 (by kernel_rfl)).symm.trans h0_) (by decide),fun h0_=>absurd ((hoff 14 (by kernel_rfl)).symm.trans h0_) (by decide),fun h0_=>absurd ((hoff 6 (by kernel_rfl)).symm.trans h0_) (by decide),fun h0_=>absurd ((hoff 10 (by kernel_rfl)).symm.trans h0_) (by decide),Q_X11_,Q_X12_⟩
     refine steps_cons ?_ ?_
     ·rintro b a w' ⟨v477,v481,gb484,gb485,m6_,m10_,m11_,m12_,ha,Q_HO_10,Q_HO_468000,Q_HO_469000,Q_HO_9,Q_BK455,Q_BK456,Q_BK457,Q_BK458,Q_BK467,Q_BK468,Q_HB,Q_NB485_484,Q_NB484_485,Q_HO478,Q_AP_10_478,Q_AP_468000_478,Q_AP_469000_478,Q_AP_9_478,Q_HO482,Q_AP478_482,Q_AP482_478,Q_AP_10_482,Q_AP_468000_482,Q_AP_469000_482,Q_AP_9_482,Q_BK484,Q_GW484,Q_GE484,Q_NB455_484,Q_NB484_455,Q_NB456_484,Q_NB484_456,Q_NB457_484,Q_NB484_457,Q_NB458_484,Q_NB484_458,Q_NB467_484,Q_NB484_467,Q_NB468_484,Q_NB484_468,Q_BK485,Q_GW485,Q_GE485,Q_NB455_485,Q_NB485_455,Q_NB456_485,Q_NB485_456,Q_NB457_485,Q_NB485_457,Q_NB458_485,Q_NB485_458,Q_NB467_485,Q_NB485_467,Q_NB468_485,Q_NB485_468,Q_BK484_e13,Q_BK485_e14,Q_X6_,Q_X10_,Q_X11_,Q_X12_⟩ hb_ hon hoff
      refine⟨_,rfl,fun K hK=>?_⟩
      have e36 : a.tmps[36]? = some (.pointer (some ⟨gb468,1,none⟩)):=by rw [ha];exact(putSel_off rfl).trans rfl
      replace ha:=am ha
      have HO_10:=am Q_HO_10
      have HO_468000:=am Q_HO_468000
      have HO_469000:=am Q_HO_469000
      have HO_9:=am Q_HO_9
      have BK455:=am Q_BK455
      have BK456:=am Q_BK456
      have BK457:=am Q_BK457
      have BK458:=am Q_BK458
      have BK467:=am Q_BK467
      have BK468:=am Q_BK468
      have HB:=am Q_HB
      have hc0_ : w'.cell? ⟨gb468,0,none⟩ = some (v464):=(blk_cell BK468.out 0).trans rfl
      have hc1_ : w'.cell? ⟨gb468,1,none⟩ = some (.bool t466):=(blk_cell BK468.out 1).trans rfl
      refine value_ (w1:=w') (v:=.bool t466) (by rfl) rfl ?_ ?_
      ·go_simp
       (try simp only [i64_w])
       try first | rfl |(simp only [bne,Bool.not_not];done) |(simp [bne];done)
      refine hK.out _ _ ⟨v477,v481,gb484,gb485,m6_,m10_,m11_,m12_,(by rw [ha.out];exact putSel_upk 1 hb_ rfl rfl rfl),Q_HO_10,Q_HO_468000,Q_HO_469000,Q_HO_9,Q_BK455,Q_BK456,Q_BK457,Q_BK458,Q_BK467,Q_BK468,Q_HB,Q_NB485_484,Q_NB484_485,fun h0_=>absurd ((hoff 6 (by kernel_rfl)).symm.trans h0_) (by decide),fun h0_=>absurd ((hoff 6 (by kernel_rfl)).symm.trans h0_) (by decide),fun h0_=>absurd ((hoff 6 (by kernel_rfl)).symm.trans h0_) (by decide),fun h0_=>absurd ((hoff 6 (by kernel_rfl)).symm.trans h0_) (by decide),fun h0_=>absurd ((hoff 6 (by kernel_rfl)).symm.trans h0_) (by decide),fun h0_=>absurd ((hoff 10 (by kernel_rfl)).symm.trans h0_) (by decide),fun h0_=>absurd ((hoff 10 (by kernel_rfl)).symm.trans h0_) (by decide),fun h0_=>absurd ((hoff 10 (by kernel_rfl)).symm.trans h0_) (by decide),fun h0_=>absurd ((hoff 10 (by kernel_rfl)).symm.trans h0_) (by decide),fun h0_=>absurd ((hoff 10 (by kernel_rfl)).symm.trans h0_) (by decide),fun h0_=>absurd ((hoff 10 (by kernel_rfl)).symm.trans h0_) (by decide),fun h0_=>absurd ((hoff 10 (by kernel_rfl)).symm.trans h0_) (by decide),Q_BK484,Q_GW484,Q_GE484,Q_NB455_484,Q_NB484_455,Q_NB456_484,Q_NB484_456,Q_NB457_484,Q_NB484_457,Q_NB458_484,Q_NB484_458,Q_NB467_484,Q_NB484_467,Q_NB468_484,Q_NB484_468,Q_BK485,Q_GW485,Q_GE485,Q_NB455_485,Q_NB485_455,Q_NB456_485,Q_NB485_456,Q_NB457_485,Q_NB485_457,Q_NB458_485,Q_NB485_458,Q_NB467_485,Q_NB485_467,Q_NB468_485,Q_NB485_468,fun h0_=>absurd ((hoff 13 (by kernel_rfl)).symm.trans h0_) (by decide),fun h0_=>absurd ((hoff 14 (by kernel_rfl)).symm.trans h0_) (by decide),fun h0_=>absurd ((hoff 6 (by kernel_rfl)).symm.trans h0_) (by decide),fun h0_=>absurd ((hoff 10 (by kernel_rfl)).symm.trans h0_) (by decide),Q_X11_,Q_X12_⟩
     refine steps_cons ?_ ?_
     ·rintro b a w' ⟨v477,v481,gb484,gb485,m6_,m10_,m11_,m12_,ha,Q_HO_10,Q_HO_468000,Q_HO_469000,Q_HO_9,Q_BK455,Q_BK456,Q_BK457,Q_BK458,Q_BK467,Q_BK468,Q_HB,Q_NB485_484,Q_NB484_485,Q_HO478,Q_AP_10_478,Q_AP_468000_478,Q_AP_469000_478,Q_AP_9_478,Q_HO482,Q_AP478_482,Q_AP482_478,Q_AP_10_482,Q_AP_468000_482,Q_AP_469000_482,Q_AP_9_482,Q_BK484,Q_GW484,Q_GE484,Q_NB455_484,Q_NB484_455,Q_NB456_484,Q_NB484_456,Q_NB457_484,Q_NB484_457,Q_NB458_484,Q_NB484_458,Q_NB467_484,Q_NB484_467,Q_NB468_484,Q_NB484_468,Q_BK485,Q_GW485,Q_GE485,Q_NB455_485,Q_NB485_455,Q_NB456_485,Q_NB485_456,Q_NB457_485,Q_NB485_457,Q_NB458_485,Q_NB485_458,Q_NB467_485,Q_NB485_467,Q_NB468_485,Q_NB485_468,Q_BK484_e13,Q_BK485_e14,Q_X6_,Q_X10_,Q_X11_,Q_X12_⟩ hb_ hon hoff
      refine⟨_,rfl,fun K hK=>?_⟩
      have e35 : a.tmps[35]? = some (.bool t462):=by rw [ha];exact putSel_on (e:=(2,35,.bool t462)) 0 rfl rfl (hon 2 (by kernel_rfl)) rfl
      have e37 : a.tmps[37]? = some (.bool t466):=by rw [ha];exact putSel_on (e:=(4,37,.bool t466)) 1 rfl rfl (hon 4 (by kernel_rfl)) rfl
      replace ha:=am ha
      have HO_10:=am Q_HO_10
      have HO_468000:=am Q_HO_468000
      have HO_469000:=am Q_HO_469000
      have HO_9:=am Q_HO_9
      have BK455:=am Q_BK455
      have BK456:=am Q_BK456
      have BK457:=am Q_BK457
      have BK458:=am Q_BK458
      have BK467:=am Q_BK467
      have BK468:=am Q_BK468
      have HB:=am Q_HB
      refine value_ (w1:=w') (v:=.bool (t462 != t466)) (by rfl) rfl ?_ ?_
      ·go_simp
       (try simp only [i64_w])
       try first | rfl |(simp only [bne,Bool.not_not];done) |(simp [bne];done)
      refine hK.out _ _ ⟨v477,v481,gb484,gb485,m6_,m10_,m11_,m12_,(by rw [ha.out];exact putSel_upk 2 hb_ rfl rfl rfl),Q_HO_10,Q_HO_468000,Q_HO_469000,Q_HO_9,Q_BK455,Q_BK456,Q_BK457,Q_BK458,Q_BK467,Q_BK468,Q_HB,Q_NB485_484,Q_NB484_485,fun h0_=>absurd ((hoff 6 (by kernel_rfl)).symm.trans h0_) (by decide),fun h0_=>absurd ((hoff 6 (by kernel_rfl)).symm.trans h0_) (by decide),fun h0_=>absurd ((hoff 6 (by kernel_rfl)).symm.trans h0_) (by decide),fun h0_=>absurd ((hoff 6 (by kernel_rfl)).symm.trans h0_) (by decide),fun h0_=>absurd ((hoff 6 (by kernel_rfl)).symm.trans h0_) (by decide),fun h0_=>absurd ((hoff 10 (by kernel_rfl)).symm.trans h0_) (by decide),fun h0_=>absurd ((hoff 10 (by kernel_rfl)).symm.trans h0_) (by decide),fun h0_=>absurd ((hoff 10 (by kernel_rfl)).symm.trans h0_) (by decide),fun h0_=>absurd ((hoff 10 (by kernel_rfl)).symm.trans h0_) (by decide),fun h0_=>absurd ((hoff 10 (by kernel_rfl)).symm.trans h0_) (by decide),fun h0_=>absurd ((hoff 10 (by kernel_rfl)).symm.trans h0_) (by decide),fun h0_=>absurd ((hoff 10 (by kernel_rfl)).symm.trans h0_) (by decide),Q_BK484,Q_GW484,Q_GE484,Q_NB455_484,Q_NB484_455,Q_NB456_484,Q_NB484_456,Q_NB457_484,Q_NB484_457,Q_NB458_484,Q_NB484_458,Q_NB467_484,Q_NB484_467,Q_NB468_484,Q_NB484_468,Q_BK485,Q_GW485,Q_GE485,Q_NB455_485,Q_NB485_455,Q_NB456_485,Q_NB485_456,Q_NB457_485,Q_NB485_457,Q_NB458_485,Q_NB485_458,Q_NB467_485,Q_NB485_467,Q_NB468_485,Q_NB485_468,fun h0_=>absurd ((hoff 13 (by kernel_rfl)).symm.trans h0_) (by decide),fun h0_=>absurd ((hoff 14 (by kernel_rfl)).symm.trans h0_) (by decide),fun h0_=>absurd ((hoff 6 (by kernel_rfl)).symm.trans h0_) (by decide),fun h0_=>absurd ((hoff 10 (by kernel_rfl)).symm.trans h0_) (by decide),Q_X11_,Q_X12_⟩
     refine steps_cons ?_ ?_
     ·rintro b a w' ⟨v477,v481,gb484,gb485,m6_,m10_,m11_,m12_,ha,Q_HO_10,Q_HO_468000,Q_HO_469000,Q_HO_9,Q_BK455,Q_BK456,Q_BK457,Q_BK458,Q_BK467,Q_BK468,Q_HB,Q_NB485_484,Q_NB484_485,Q_HO478,Q_AP_10_478,Q_AP_468000_478,Q_AP_469000_478,Q_AP_9_478,Q_HO482,Q_AP478_482,Q_AP482_478,Q_AP_10_482,Q_AP_468000_482,Q_AP_469000_482,Q_AP_9_482,Q_BK484,Q_GW484,Q_GE484,Q_NB455_484,Q_NB484_455,Q_NB456_484,Q_NB484_456,Q_NB457_484,Q_NB484_457,Q_NB458_484,Q_NB484_458,Q_NB467_484,Q_NB484_467,Q_NB468_484,Q_NB484_468,Q_BK485,Q_GW485,Q_GE485,Q_NB455_485,Q_NB485_455,Q_NB456_485,Q_NB485_456,Q_NB457_485,Q_NB485_457,Q_NB458_485,Q_NB485_458,Q_NB467_485,Q_NB485_467,Q_NB468_485,Q_NB485_468,Q_BK484_e13,Q_BK485_e14,Q_X6_,Q_X10_,Q_X11_,Q_X12_⟩ hb_ hon hoff
      refine⟨_,rfl,fun K hK=>?_⟩
      have e33 : a.tmps[33]? = some (.slice Ao9002 x9_4.length co9002):=by rw [ha];exact(putSel_off rfl).trans rfl
      have e38 : a.tmps[38]? = some (.bool (t462 != t466)):=by rw [ha];exact putSel_on (e:=(5,38,.bool (t462 != t466))) 2 rfl rfl (hon 5 (by kernel_rfl)) rfl
      replace ha:=am ha
      have HO_10:=am Q_HO_10
      have HO_468000:=am Q_HO_468000
      have HO_469000:=am Q_HO_469000
      have HO_9:=am Q_HO_9
      have BK455:=am Q_BK455
      have BK456:=am Q_BK456
      have BK457:=am Q_BK457
      have BK458:=am Q_BK458
      have BK467:=am Q_BK467
      have BK468:=am Q_BK468
      have HB:=am Q_HB
      refine goes_ Tryz.func29 (by kernel_rfl) rfl #[.slice Ao9002 x9_4.length co9002,.bool (t462 != t466)] (by rfl) rfl rfl (by first |(simp only [List.map_toArray,List.map_cons,List.map_nil,Act.eval,Array.getD_eq_getD_getElem?,Option.getD_some,e33,e38];done) |(simp only [List.map_toArray,List.map_cons,List.map_nil,Act.eval,Array.getD_eq_getD_getElem?,Option.getD_some,e33,e38];rfl)) ?_
      with_reducible refine(num_made.calls kj4 _ _ x9_4 (t462 != t466) t476 t479 _ ?side1 ?side2 A34.out).mono ?_
      (case side1=>exact zC (Kd.R_reads' HO_9.out).2.2)
      (case side2=>exact(Kd.R_reads' HO_9.out).2.1)
      rintro e w38 ⟨v477,rfl,ho0,hb⟩
      refine⟨_,rfl,?_⟩
      have n0_:=re HO_9 (Kd.R_base ho0) hb
      have n1_:=re HO_10 (Kd.R_base ho0) hb
      have n2_:=re HO_468000 (Kd.R_base ho0) hb
      have n3_:=re HO_469000 (Kd.R_base ho0) hb
      have n4_:=am (Kd.R_lower (Kd.R_new' (Kd.R_new' (Kd.R_new' (Kd.R_new' (Kd.R_newM (M:=fun k_=>(w.heap.size≤k_)) ho0 (below_size zb) (fun k_ h_=>h_)) (Kd.R_lt (zR HO_9.out))) (Kd.R_lt (zR HO_10.out))) (Kd.R_lt (zR HO_468000.out))) (Kd.R_lt (zR HO_469000.out))) (below_size zb))
      have n5_:=kb BK455 hb
      have n6_:=kb BK456 hb
      have n7_:=kb BK457 hb
      have n8_:=kb BK458 hb
      have n9_:=kb BK467 hb
      have n10_:=kb BK468 hb
      have n11_:=am (below_step zb hb)
      have z_BK484:=fun (h0_ : b 11 = true) (h1_ : b 13 = false)=>(show w38.heap[gb484]? = some (.cells #[.slice none 0 0,.bool false] 54 (0,0)) from by first | exact(blk_below (g:=gb484) (o:=.cells #[.slice none 0 0,.bool false] 54 (0,0)) (by refine zk ?_;exact(Q_BK484 h0_ h1_)) hb))
      have z_BK485:=fun (h0_ : b 12 = true) (h1_ : b 14 = false)=>(show w38.heap[gb485]? = some (.cells #[.slice none 0 0,.bool false] 54 (0,0)) from by first | exact(blk_below (g:=gb485) (o:=.cells #[.slice none 0 0,.bool false] 54 (0,0)) (by refine zk ?_;exact(Q_BK485 h0_ h1_)) hb))
      clear HO_9
      clear HO_10
      clear HO_468000
      clear HO_469000
      clear BK455
      clear BK456
      clear BK457
      clear BK458
      clear BK467
      clear BK468
      clear HB
      have HO_9:=n0_
      have HO_10:=n1_
      have HO_468000:=n2_
      have HO_469000:=n3_
      have HO478:=n4_
      have BK455:=n5_
      have BK456:=n6_
      have BK457:=n7_
      have BK458:=n8_
      have BK467:=n9_
      have BK468:=n10_
      have HB:=n11_
      clear n0_ n1_ n2_ n3_ n4_ n5_ n6_ n7_ n8_ n9_ n10_ n11_
      (try clear hb)
      (try clear hb2)
      (try clear hk)
      (try clear hi)
      (try clear ho0)
      refine hK.out _ _ ⟨v477,v481,gb484,gb485,(.agg #[v477,.bool t479]),m10_,m11_,m12_,(by rw [ha.out];exact putSel_upk 3 hb_ rfl rfl rfl),(by refine zR ?_;exact Kd.R_mono HO_10.out (fun _ hk=>by first | exact⟨hk.1.1,⟨hk.2,⟨hk.1.2.2.1,⟨hk.1.2.2.2,hk.1.2.1⟩⟩⟩⟩ | exact zD hk)),(by refine zR ?_;exact Kd.R_mono HO_468000.out (fun _ hk=>by first | exact⟨hk.1.1,⟨hk.2,⟨hk.1.2.2.1,⟨hk.1.2.2.2,hk.1.2.1⟩⟩⟩⟩ | exact zD hk)),(by refine zR ?_;exact Kd.R_mono HO_469000.out (fun _ hk=>by first | exact⟨hk.1.1,⟨hk.2,⟨hk.1.2.2.1,⟨hk.1.2.2.2,hk.1.2.1⟩⟩⟩⟩ | exact zD hk)),(by refine zR ?_;exact Kd.R_mono HO_9.out (fun _ hk=>by first | exact⟨hk.1.1,⟨hk.2,⟨hk.1.2.1,⟨hk.1.2.2.1,hk.1.2.2.2⟩⟩⟩⟩ | exact zD hk)),(zk BK455.out),(zk BK456.out),(zk BK457.out),(zk BK458.out),(zk BK467.out),(zk BK468.out),zb,Q_NB485_484,Q_NB484_485,fun _=>(by refine zR ?_;exact Kd.R_mono HO478.out (fun _ hk=>by first | exact⟨hk.1.1.1.1.1,⟨hk.1.1.2,⟨hk.1.2,⟨hk.2,hk.1.1.1.2⟩⟩⟩⟩ | exact zD hk)),fun _=>(fun k_ hk_=>(HO_10.out.1 k_ hk_).2),fun _=>(fun k_ hk_=>(HO_468000.out.1 k_ hk_).2),fun _=>(fun k_ hk_=>(HO_469000.out.1 k_ hk_).2),fun _=>(fun k_ hk_=>(HO_9.out.1 k_ hk_).2),fun h0_=>absurd ((hoff 10 (by kernel_rfl)).symm.trans h0_) (by decide),fun h0_=>absurd ((hoff 10 (by kernel_rfl)).symm.trans h0_) (by decide),fun h0_=>absurd ((hoff 10 (by kernel_rfl)).symm.trans h0_) (by decide),fun h0_=>absurd ((hoff 10 (by kernel_rfl)).symm.trans h0_) (by decide),fun h0_=>absurd ((hoff 10 (by kernel_rfl)).symm.trans h0_) (by decide),fun h0_=>absurd ((hoff 10 (by kernel_rfl)).symm.trans h0_) (by decide),fun h0_=>absurd ((hoff 10 (by kernel_rfl)).symm.trans h0_) (by decide),z_BK484,Q_GW484,Q_GE484,Q_NB455_484,Q_NB484_455,Q_NB456_484,Q_NB484_456,Q_NB457_484,Q_NB484_457,Q_NB458_484,Q_NB484_458,Q_NB467_484,Q_NB484_467,Q_NB468_484,Q_NB484_468,z_BK485,Q_GW485,Q_GE485,Q_NB455_485,Q_NB485_455,Q_NB456_485,Q_NB485_456,Q_NB457_485,Q_NB485_457,Q_NB458_485,Q_NB485_458,Q_NB467_485,Q_NB485_467,Q_NB468_485,Q_NB485_468,fun h0_=>absurd ((hoff 13 (by kernel_rfl)).symm.trans h0_) (by decide),fun h0_=>absurd ((hoff 14 (by kernel_rfl)).symm.trans h0_) (by decide),fun _=>rfl,fun h0_=>absurd ((hoff 10 (by kernel_rfl)).symm.trans h0_) (by decide),Q_X11_,Q_X12_⟩
     refine steps_cons ?_ ?_
     ·rintro b a w' ⟨v477,v481,gb484,gb485,m6_,m10_,m11_,m12_,ha,Q_HO_10,Q_HO_468000,Q_HO_469000,Q_HO_9,Q_BK455,Q_BK456,Q_BK457,Q_BK458,Q_BK467,Q_BK468,Q_HB,Q_NB485_484,Q_NB484_485,Q_HO478,Q_AP_10_478,Q_AP_468000_478,Q_AP_469000_478,Q_AP_9_478,Q_HO482,Q_AP478_482,Q_AP482_478,Q_AP_10_482,Q_AP_468000_482,Q_AP_469000_482,Q_AP_9_482,Q_BK484,Q_GW484,Q_GE484,Q_NB455_484,Q_NB484_455,Q_NB456_484,Q_NB484_456,Q_NB457_484,Q_NB484_457,Q_NB458_484,Q_NB484_458,Q_NB467_484,Q_NB484_467,Q_NB468_484,Q_NB484_468,Q_BK485,Q_GW485,Q_GE485,Q_NB455_485,Q_NB485_455,Q_NB456_485,Q_NB485_456,Q_NB457_485,Q_NB485_457,Q_NB458_485,Q_NB485_458,Q_NB467_485,Q_NB485_467,Q_NB468_485,Q_NB485_468,Q_BK484_e13,Q_BK485_e14,Q_X6_,Q_X10_,Q_X11_,Q_X12_⟩ hb_ hon hoff
      refine⟨_,rfl,fun K hK=>?_⟩
      have e41 : a.tmps[41]? = some (.pointer (some ⟨gb468,1,none⟩)):=by rw [ha];exact(putSel_off rfl).trans rfl
      replace ha:=am ha
      have HO_10:=am Q_HO_10
      have HO_468000:=am Q_HO_468000
      have HO_469000:=am Q_HO_469000
      have HO_9:=am Q_HO_9
      have BK455:=am Q_BK455
      have BK456:=am Q_BK456
      have BK457:=am Q_BK457
      have BK458:=am Q_BK458
      have BK467:=am Q_BK467
      have BK468:=am Q_BK468
      have HB:=am Q_HB
      have hc0_ : w'.cell? ⟨gb468,0,none⟩ = some (v464):=(blk_cell BK468.out 0).trans rfl
      have hc1_ : w'.cell? ⟨gb468,1,none⟩ = some (.bool t466):=(blk_cell BK468.out 1).trans rfl
      refine value_ (w1:=w') (v:=.bool t466) (by rfl) rfl ?_ ?_
      ·go_simp
       (try simp only [i64_w])
       try first | rfl |(simp only [bne,Bool.not_not];done) |(simp [bne];done)
      refine hK.out _ _ ⟨v477,v481,gb484,gb485,m6_,m10_,m11_,m12_,(by rw [ha.out];exact putSel_upk 4 hb_ rfl rfl rfl),Q_HO_10,Q_HO_468000,Q_HO_469000,Q_HO_9,Q_BK455,Q_BK456,Q_BK457,Q_BK458,Q_BK467,Q_BK468,Q_HB,Q_NB485_484,Q_NB484_485,Q_HO478,Q_AP_10_478,Q_AP_468000_478,Q_AP_469000_478,Q_AP_9_478,fun h0_=>absurd ((hoff 10 (by kernel_rfl)).symm.trans h0_) (by decide),fun h0_=>absurd ((hoff 10 (by kernel_rfl)).symm.trans h0_) (by decide),fun h0_=>absurd ((hoff 10 (by kernel_rfl)).symm.trans h0_) (by decide),fun h0_=>absurd ((hoff 10 (by kernel_rfl)).symm.trans h0_) (by decide),fun h0_=>absurd ((hoff 10 (by kernel_rfl)).symm.trans h0_) (by decide),fun h0_=>absurd ((hoff 10 (by kernel_rfl)).symm.trans h0_) (by decide),fun h0_=>absurd ((hoff 10 (by kernel_rfl)).symm.trans h0_) (by decide),Q_BK484,Q_GW484,Q_GE484,Q_NB455_484,Q_NB484_455,Q_NB456_484,Q_NB484_456,Q_NB457_484,Q_NB484_457,Q_NB458_484,Q_NB484_458,Q_NB467_484,Q_NB484_467,Q_NB468_484,Q_NB484_468,Q_BK485,Q_GW485,Q_GE485,Q_NB455_485,Q_NB485_455,Q_NB456_485,Q_NB485_456,Q_NB457_485,Q_NB485_457,Q_NB458_485,Q_NB485_458,Q_NB467_485,Q_NB485_467,Q_NB468_485,Q_NB485_468,fun h0_=>absurd ((hoff 13 (by kernel_rfl)).symm.trans h0_) (by decide),fun h0_=>absurd ((hoff 14 (by kernel_rfl)).symm.trans h0_) (by decide),Q_X6_,fun h0_=>absurd ((hoff 10 (by kernel_rfl)).symm.trans h0_) (by decide),Q_X11_,Q_X12_⟩
     refine steps_cons ?_ ?_
     ·rintro b a w' ⟨v477,v481,gb484,gb485,m6_,m10_,m11_,m12_,ha,Q_HO_10,Q_HO_468000,Q_HO_469000,Q_HO_9,Q_BK455,Q_BK456,Q_BK457,Q_BK458,Q_BK467,Q_BK468,Q_HB,Q_NB485_484,Q_NB484_485,Q_HO478,Q_AP_10_478,Q_AP_468000_478,Q_AP_469000_478,Q_AP_9_478,Q_HO482,Q_AP478_482,Q_AP482_478,Q_AP_10_482,Q_AP_468000_482,Q_AP_469000_482,Q_AP_9_482,Q_BK484,Q_GW484,Q_GE484,Q_NB455_484,Q_NB484_455,Q_NB456_484,Q_NB484_456,Q_NB457_484,Q_NB484_457,Q_NB458_484,Q_NB484_458,Q_NB467_484,Q_NB484_467,Q_NB468_484,Q_NB484_468,Q_BK485,Q_GW485,Q_GE485,Q_NB455_485,Q_NB485_455,Q_NB456_485,Q_NB485_456,Q_NB457_485,Q_NB485_457,Q_NB458_485,Q_NB485_458,Q_NB467_485,Q_NB485_467,Q_NB468_485,Q_NB485_468,Q_BK484_e13,Q_BK485_e14,Q_X6_,Q_X10_,Q_X11_,Q_X12_⟩ hb_ hon hoff
      refine⟨_,rfl,fun K hK=>?_⟩
      have e40 : a.tmps[40]? = some (.slice Ao9003 x10_4.length co9003):=by rw [ha];exact(putSel_off rfl).trans rfl
      have e42 : a.tmps[42]? = some (.bool t466):=by rw [ha];exact putSel_on (e:=(9,42,.bool t466)) 4 rfl rfl (hon 9 (by kernel_rfl)) rfl
      replace ha:=am ha
      have HO_10:=am Q_HO_10
      have HO_468000:=am Q_HO_468000
      have HO_469000:=am Q_HO_469000
      have HO_9:=am Q_HO_9
      have BK455:=am Q_BK455
      have BK456:=am Q_BK456
      have BK457:=am Q_BK457
      have BK458:=am Q_BK458
      have BK467:=am Q_BK467
      have BK468:=am Q_BK468
      have HB:=am Q_HB
      have HO478:=am (Q_HO478 (hon 6 (by kernel_rfl)))
      have AP_10_478:=am (Q_AP_10_478 (hon 6 (by kernel_rfl)))
      have AP_468000_478:=am (Q_AP_468000_478 (hon 6 (by kernel_rfl)))
      have AP_469000_478:=am (Q_AP_469000_478 (hon 6 (by kernel_rfl)))
      have AP_9_478:=am (Q_AP_9_478 (hon 6 (by kernel_rfl)))
      refine goes_ Tryz.func29 (by kernel_rfl) rfl #[.slice Ao9003 x10_4.length co9003,.bool t466] (by rfl) rfl rfl (by first |(simp only [List.map_toArray,List.map_cons,List.map_nil,Act.eval,Array.getD_eq_getD_getElem?,Option.getD_some,e40,e42];done) |(simp only [List.map_toArray,List.map_cons,List.map_nil,Act.eval,Array.getD_eq_getD_getElem?,Option.getD_some,e40,e42];rfl)) ?_
      with_reducible refine(num_made.calls kj4 _ _ x10_4 t466 t480 t483 _ ?side1 ?side2 A35.out).mono ?_
      (case side1=>exact zC (Kd.R_reads' HO_10.out).2.2)
      (case side2=>exact(Kd.R_reads' HO_10.out).2.1)
      rintro e w40 ⟨v481,rfl,ho0,hb⟩
      refine⟨_,rfl,?_⟩
      have n0_:=re HO_9 (Kd.R_base ho0) hb
      have n1_:=re HO_10 (Kd.R_base ho0) hb
      have n2_:=re HO_468000 (Kd.R_base ho0) hb
      have n3_:=re HO_469000 (Kd.R_base ho0) hb
      have n4_:=re HO478 (Kd.R_base ho0) hb
      have n5_:=am (Kd.R_lower (Kd.R_new' (Kd.R_new' (Kd.R_new' (Kd.R_new' (Kd.R_new' (Kd.R_newM (M:=fun k_=>(w.heap.size≤k_)) ho0 (below_size zb) (fun k_ h_=>h_)) (Kd.R_lt (zR HO_9.out))) (Kd.R_lt (zR HO_10.out))) (Kd.R_lt (zR HO_468000.out))) (Kd.R_lt (zR HO_469000.out))) (Kd.R_lt (zR HO478.out))) (below_size zb))
      have n6_:=kb BK455 hb
      have n7_:=kb BK456 hb
      have n8_:=kb BK457 hb
      have n9_:=kb BK458 hb
      have n10_:=kb BK467 hb
      have n11_:=kb BK468 hb
      have n12_:=am (below_step zb hb)
      have z_BK484:=fun (h0_ : b 11 = true) (h1_ : b 13 = false)=>(show w40.heap[gb484]? = some (.cells #[.slice none 0 0,.bool false] 54 (0,0)) from by first | exact(blk_below (g:=gb484) (o:=.cells #[.slice none 0 0,.bool false] 54 (0,0)) (by refine zk ?_;exact(Q_BK484 h0_ h1_)) hb))
      have z_BK485:=fun (h0_ : b 12 = true) (h1_ : b 14 = false)=>(show w40.heap[gb485]? = some (.cells #[.slice none 0 0,.bool false] 54 (0,0)) from by first | exact(blk_below (g:=gb485) (o:=.cells #[.slice none 0 0,.bool false] 54 (0,0)) (by refine zk ?_;exact(Q_BK485 h0_ h1_)) hb))
      clear HO_9
      clear HO_10
      clear HO_468000
      clear HO_469000
      clear HO478
      clear BK455
      clear BK456
      clear BK457
      clear BK458
      clear BK467
      clear BK468
      clear HB
      have HO_9:=n0_
      have HO_10:=n1_
      have HO_468000:=n2_
      have HO_469000:=n3_
      have HO478:=n4_
      have HO482:=n5_
      have BK455:=n6_
      have BK456:=n7_
      have BK457:=n8_
      have BK458:=n9_
      have BK467:=n10_
      have BK468:=n11_
      have HB:=n12_
      clear n0_ n1_ n2_ n3_ n4_ n5_ n6_ n7_ n8_ n9_ n10_ n11_ n12_
      (try clear hb)
      (try clear hb2)
      (try clear hk)
      (try clear hi)
      (try clear ho0)
      refine hK.out _ _ ⟨v477,v481,gb484,gb485,m6_,(.agg #[v481,.bool t483]),m11_,m12_,(by rw [ha.out];exact putSel_upk 5 hb_ rfl rfl rfl),(by refine zR ?_;exact Kd.R_mono HO_10.out (fun _ hk=>by first | exact⟨hk.1.1,⟨hk.1.2.1,⟨hk.2,⟨hk.1.2.2.1,⟨hk.1.2.2.2.1,hk.1.2.2.2.2⟩⟩⟩⟩⟩ | exact zD hk)),(by refine zR ?_;exact Kd.R_mono HO_468000.out (fun _ hk=>by first | exact⟨hk.1.1,⟨hk.1.2.1,⟨hk.2,⟨hk.1.2.2.1,⟨hk.1.2.2.2.1,hk.1.2.2.2.2⟩⟩⟩⟩⟩ | exact zD hk)),(by refine zR ?_;exact Kd.R_mono HO_469000.out (fun _ hk=>by first | exact⟨hk.1.1,⟨hk.1.2.1,⟨hk.2,⟨hk.1.2.2.1,⟨hk.1.2.2.2.1,hk.1.2.2.2.2⟩⟩⟩⟩⟩ | exact zD hk)),(by refine zR ?_;exact Kd.R_mono HO_9.out (fun _ hk=>by first | exact⟨hk.1.1,⟨hk.1.2.1,⟨hk.2,⟨hk.1.2.2.1,⟨hk.1.2.2.2.1,hk.1.2.2.2.2⟩⟩⟩⟩⟩ | exact zD hk)),(zk BK455.out),(zk BK456.out),(zk BK457.out),(zk BK458.out),(zk BK467.out),(zk BK468.out),zb,Q_NB485_484,Q_NB484_485,fun _=>(by refine zR ?_;exact Kd.R_mono HO478.out (fun _ hk=>by first | exact⟨hk.1.1,⟨hk.2,⟨hk.1.2.1,⟨hk.1.2.2.1,⟨hk.1.2.2.2.1,hk.1.2.2.2.2⟩⟩⟩⟩⟩ | exact zD hk)),fun _=>(by first | exact AP_10_478.out | exact(fun k_ hk_=>(HO_10.out.1 k_ hk_).1.2.1)),fun _=>(by first | exact AP_468000_478.out | exact(fun k_ hk_=>(HO_468000.out.1 k_ hk_).1.2.1)),fun _=>(by first | exact AP_469000_478.out | exact(fun k_ hk_=>(HO_469000.out.1 k_ hk_).1.2.1)),fun _=>(by first | exact AP_9_478.out | exact(fun k_ hk_=>(HO_9.out.1 k_ hk_).1.2.1)),fun _=>(by refine zR ?_;exact Kd.R_mono HO482.out (fun _ hk=>by first | exact⟨hk.1.1.1.1.1.1,⟨hk.2,⟨hk.1.1.1.2,⟨hk.1.1.2,⟨hk.1.2,hk.1.1.1.1.2⟩⟩⟩⟩⟩ | exact zD hk)),fun _=>(fun k_ hk_=>(HO478.out.1 k_ hk_).2),fun _=>(fun k_ hk_=>(HO482.out.1 k_ hk_).2),fun _=>(by first | exact AP_10_478.out | exact(fun k_ hk_=>(HO_10.out.1 k_ hk_).2)),fun _=>(by first | exact AP_468000_478.out | exact(fun k_ hk_=>(HO_468000.out.1 k_ hk_).2)),fun _=>(by first | exact AP_469000_478.out | exact(fun k_ hk_=>(HO_469000.out.1 k_ hk_).2)),fun _=>(by first | exact AP_9_478.out | exact(fun k_ hk_=>(HO_9.out.1 k_ hk_).2)),z_BK484,Q_GW484,Q_GE484,Q_NB455_484,Q_NB484_455,Q_NB456_484,Q_NB484_456,Q_NB457_484,Q_NB484_457,Q_NB458_484,Q_NB484_458,Q_NB467_484,Q_NB484_467,Q_NB468_484,Q_NB484_468,z_BK485,Q_GW485,Q_GE485,Q_NB455_485,Q_NB485_455,Q_NB456_485,Q_NB485_456,Q_NB457_485,Q_NB485_457,Q_NB458_485,Q_NB485_458,Q_NB467_485,Q_NB485_467,Q_NB468_485,Q_NB485_468,fun h0_=>absurd ((hoff 13 (by kernel_rfl)).symm.trans h0_) (by decide),fun h0_=>absurd ((hoff 14 (by kernel_rfl)).symm.trans h0_) (by decide),Q_X6_,fun _=>rfl,Q_X11_,Q_X12_⟩
     refine steps_cons ?_ ?_
     ·rintro b a w' ⟨v477,v481,gb484,gb485,m6_,m10_,m11_,m12_,ha,Q_HO_10,Q_HO_468000,Q_HO_469000,Q_HO_9,Q_BK455,Q_BK456,Q_BK457,Q_BK458,Q_BK467,Q_BK468,Q_HB,Q_NB485_484,Q_NB484_485,Q_HO478,Q_AP_10_478,Q_AP_468000_478,Q_AP_469000_478,Q_AP_9_478,Q_HO482,Q_AP478_482,Q_AP482_478,Q_AP_10_482,Q_AP_468000_482,Q_AP_469000_482,Q_AP_9_482,Q_BK484,Q_GW484,Q_GE484,Q_NB455_484,Q_NB484_455,Q_NB456_484,Q_NB484_456,Q_NB457_484,Q_NB484_457,Q_NB458_484,Q_NB484_458,Q_NB467_484,Q_NB484_467,Q_NB468_484,Q_NB484_468,Q_BK485,Q_GW485,Q_GE485,Q_NB455_485,Q_NB485_455,Q_NB456_485,Q_NB485_456,Q_NB457_485,Q_NB485_457,Q_NB458_485,Q_NB485_458,Q_NB467_485,Q_NB485_467,Q_NB468_485,Q_NB485_468,Q_BK484_e13,Q_BK485_e14,Q_X6_,Q_X10_,Q_X11_,Q_X12_⟩ hb_ hon hoff
      refine⟨_,rfl,fun K hK=>?_⟩
      replace ha:=am ha
      have HO_10:=am Q_HO_10
      have HO_468000:=am Q_HO_468000
      have HO_469000:=am Q_HO_469000
      have HO_9:=am Q_HO_9
      have BK455:=am Q_BK455
      have BK456:=am Q_BK456
      have BK457:=am Q_BK457
      have BK458:=am Q_BK458
      have BK467:=am Q_BK467
      have BK468:=am Q_BK468
      have HB:=am Q_HB
      refine box_step ?hg (N:=12) ?hd (cs:=#[.slice none 0 0,.bool false]) (t:=54) ?hr ?_;(case hd=>rfl);(case hg=>rfl);(case hr=>exact zh)
      intro gb484 hg w38 hbox hb
      have n0_:=rb HO_9 hb
      have n1_:=rb HO_10 hb
      have n2_:=rb HO_468000 hb
      have n3_:=rb HO_469000 hb
      have n4_:=kb BK455 hb
      have n5_:=kb BK456 hb
      have n6_:=kb BK457 hb
      have n7_:=kb BK458 hb
      have n8_:=kb BK467 hb
      have n9_:=kb BK468 hb
      have n10_:=am (below_step zb hb)
      have n11_:=am (hbox)
      have n12_:=gw w hg
      have n13_:=gw w hg
      have n14_:=nl BK455 hg
      have n15_:=nr BK455 hg
      have n16_:=nl BK456 hg
      have n17_:=nr BK456 hg
      have n18_:=nl BK457 hg
      have n19_:=nr BK457 hg
      have n20_:=nl BK458 hg
      have n21_:=nr BK458 hg
      have n22_:=nl BK467 hg
      have n23_:=nr BK467 hg
      have n24_:=nl BK468 hg
      have n25_:=nr BK468 hg
      have z_NB485_484:=fun (h0_ : up b 11 11 = true) (h1_ : up b 11 12 = true)=>(show gb485≠gb484 from((by rw [hg];exact Nat.ne_of_lt (blk_lt (g:=gb485) (o:=.cells #[.slice none 0 0,.bool false] 54 (0,0)) (by refine zk ?_;exact(Q_BK485 (by first | exact h1_ | simpa [up] using h1_) (hoff 14 (by kernel_rfl))))) : gb485≠gb484)))
      have z_NB484_485:=fun (h0_ : up b 11 11 = true) (h1_ : up b 11 12 = true)=>(show gb484≠gb485 from((by rw [hg];exact Nat.ne_of_gt (blk_lt (g:=gb485) (o:=.cells #[.slice none 0 0,.bool false] 54 (0,0)) (by refine zk ?_;exact(Q_BK485 (by first | exact h1_ | simpa [up] using h1_) (hoff 14 (by kernel_rfl))))) : gb484≠gb485)))
      have z_HO478:=fun (h0_ : b 6 = true)=>(show Kd.R (Kd.int .u32) 60 w38 w.heap.size (fun k_=>(w.heap.size≤k_)∧some k_≠(.slice Ao9003 x10_4.length co9003 : Value).ownBlock∧some k_≠(v460 : Value).ownBlock∧some k_≠(v464 : Value).ownBlock∧some k_≠(.slice Ao9002 x9_4.length co9002 : Value).ownBlock) v477 t476 from by first | exact(Kd.R_below (by refine zR ?_;exact(Q_HO478 h0_)) hb) | exact Kd.R_mono (Kd.R_below (by refine zR ?_;exact(Q_HO478 h0_)) hb) (fun _ h_=>by first | trivial | exact h_ | exact h_.1))
      have z_HO482:=fun (h0_ : b 10 = true)=>(show Kd.R (Kd.int .u32) 60 w38 w.heap.size (fun k_=>(w.heap.size≤k_)∧some k_≠(.slice Ao9003 x10_4.length co9003 : Value).ownBlock∧some k_≠(v460 : Value).ownBlock∧some k_≠(v464 : Value).ownBlock∧some k_≠(.slice Ao9002 x9_4.length co9002 : Value).ownBlock) v481 t480 from by first | exact(Kd.R_below (by refine zR ?_;exact(Q_HO482 h0_)) hb) | exact Kd.R_mono (Kd.R_below (by refine zR ?_;exact(Q_HO482 h0_)) hb) (fun _ h_=>by first | trivial | exact h_ | exact h_.1))
      have z_BK485:=fun (h0_ : b 12 = true) (h1_ : b 14 = false)=>(show w38.heap[gb485]? = some (.cells #[.slice none 0 0,.bool false] 54 (0,0)) from by first | exact(blk_below (g:=gb485) (o:=.cells #[.slice none 0 0,.bool false] 54 (0,0)) (by refine zk ?_;exact(Q_BK485 h0_ h1_)) hb))
      clear HO_9
      clear HO_10
      clear HO_468000
      clear HO_469000
      clear BK455
      clear BK456
      clear BK457
      clear BK458
      clear BK467
      clear BK468
      clear HB
      have HO_9:=n0_
      have HO_10:=n1_
      have HO_468000:=n2_
      have HO_469000:=n3_
      have BK455:=n4_
      have BK456:=n5_
      have BK457:=n6_
      have BK458:=n7_
      have BK467:=n8_
      have BK468:=n9_
      have HB:=n10_
      have BK484:=n11_
      have GW484:=n12_
      have GE484:=n13_
      have NB455_484:=n14_
      have NB484_455:=n15_
      have NB456_484:=n16_
      have NB484_456:=n17_
      have NB457_484:=n18_
      have NB484_457:=n19_
      have NB458_484:=n20_
      have NB484_458:=n21_
      have NB467_484:=n22_
      have NB484_467:=n23_
      have NB468_484:=n24_
      have NB484_468:=n25_
      clear n0_ n1_ n2_ n3_ n4_ n5_ n6_ n7_ n8_ n9_ n10_ n11_ n12_ n13_ n14_ n15_ n16_ n17_ n18_ n19_ n20_ n21_ n22_ n23_ n24_ n25_
      clear hb hbox hg
      refine hK.out _ _ ⟨v477,v481,gb484,gb485,m6_,m10_,(.pointer (some ⟨gb484,0,none⟩)),m12_,(by rw [ha.out];exact putSel_upk 6 hb_ rfl rfl rfl),(by refine zR ?_;exact Kd.R_mono HO_10.out (fun _ hk=>by first | exact⟨hk.1,⟨hk.2.2.1,⟨hk.2.2.2,hk.2.1⟩⟩⟩ | exact zD hk)),(by refine zR ?_;exact Kd.R_mono HO_468000.out (fun _ hk=>by first | exact⟨hk.1,⟨hk.2.2.1,⟨hk.2.2.2,hk.2.1⟩⟩⟩ | exact zD hk)),(by refine zR ?_;exact Kd.R_mono HO_469000.out (fun _ hk=>by first | exact⟨hk.1,⟨hk.2.2.1,⟨hk.2.2.2,hk.2.1⟩⟩⟩ | exact zD hk)),(by refine zR ?_;first | exact HO_9.out | exact Kd.R_mono HO_9.out (fun _ hk=>zD hk) | exact Kd.V_mono HO_9.out (fun _ hk=>zD hk)),(zk BK455.out),(zk BK456.out),(zk BK457.out),(zk BK458.out),(zk BK467.out),(zk BK468.out),zb,@z_NB485_484,@z_NB484_485,z_HO478,Q_AP_10_478,Q_AP_468000_478,Q_AP_469000_478,Q_AP_9_478,z_HO482,Q_AP478_482,Q_AP482_478,Q_AP_10_482,Q_AP_468000_482,Q_AP_469000_482,Q_AP_9_482,fun _ _=>(zk BK484.out),fun _=>GW484.out,fun _=>GE484.out,fun _=>NB455_484.out,fun _=>NB484_455.out,fun _=>NB456_484.out,fun _=>NB484_456.out,fun _=>NB457_484.out,fun _=>NB484_457.out,fun _=>NB458_484.out,fun _=>NB484_458.out,fun _=>NB467_484.out,fun _=>NB484_467.out,fun _=>NB468_484.out,fun _=>NB484_468.out,z_BK485,Q_GW485,Q_GE485,Q_NB455_485,Q_NB485_455,Q_NB456_485,Q_NB485_456,Q_NB457_485,Q_NB485_457,Q_NB458_485,Q_NB485_458,Q_NB467_485,Q_NB485_467,Q_NB468_485,Q_NB485_468,fun h0_=>absurd ((hoff 13 (by kernel_rfl)).symm.trans h0_) (by decide),fun h0_=>absurd ((hoff 14 (by kernel_rfl)).symm.trans h0_) (by decide),Q_X6_,Q_X10_,fun _=>rfl,Q_X12_⟩
     refine steps_cons ?_ ?_
     ·rintro b a w' ⟨v477,v481,gb484,gb485,m6_,m10_,m11_,m12_,ha,Q_HO_10,Q_HO_468000,Q_HO_469000,Q_HO_9,Q_BK455,Q_BK456,Q_BK457,Q_BK458,Q_BK467,Q_BK468,Q_HB,Q_NB485_484,Q_NB484_485,Q_HO478,Q_AP_10_478,Q_AP_468000_478,Q_AP_469000_478,Q_AP_9_478,Q_HO482,Q_AP478_482,Q_AP482_478,Q_AP_10_482,Q_AP_468000_482,Q_AP_469000_482,Q_AP_9_482,Q_BK484,Q_GW484,Q_GE484,Q_NB455_484,Q_NB484_455,Q_NB456_484,Q_NB484_456,Q_NB457_484,Q_NB484_457,Q_NB458_484,Q_NB484_458,Q_NB467_484,Q_NB484_467,Q_NB468_484,Q_NB484_468,Q_BK485,Q_GW485,Q_GE485,Q_NB455_485,Q_NB485_455,Q_NB456_485,Q_NB485_456,Q_NB457_485,Q_NB485_457,Q_NB458_485,Q_NB485_458,Q_NB467_485,Q_NB485_467,Q_NB468_485,Q_NB485_468,Q_BK484_e13,Q_BK485_e14,Q_X6_,Q_X10_,Q_X11_,Q_X12_⟩ hb_ hon hoff
      refine⟨_,rfl,fun K hK=>?_⟩
      replace ha:=am ha
      have HO_10:=am Q_HO_10
      have HO_468000:=am Q_HO_468000
      have HO_469000:=am Q_HO_469000
      have HO_9:=am Q_HO_9
      have BK455:=am Q_BK455
      have BK456:=am Q_BK456
      have BK457:=am Q_BK457
      have BK458:=am Q_BK458
      have BK467:=am Q_BK467
      have BK468:=am Q_BK468
      have HB:=am Q_HB
      refine box_step ?hg (N:=13) ?hd (cs:=#[.slice none 0 0,.bool false]) (t:=54) ?hr ?_;(case hd=>rfl);(case hg=>rfl);(case hr=>exact zh)
      intro gb485 hg w38 hbox hb
      have n0_:=rb HO_9 hb
      have n1_:=rb HO_10 hb
      have n2_:=rb HO_468000 hb
      have n3_:=rb HO_469000 hb
      have n4_:=kb BK455 hb
      have n5_:=kb BK456 hb
      have n6_:=kb BK457 hb
      have n7_:=kb BK458 hb
      have n8_:=kb BK467 hb
      have n9_:=kb BK468 hb
      have n10_:=am (below_step zb hb)
      have n11_:=am (hbox)
      have n12_:=gw w hg
      have n13_:=gw w hg
      have n14_:=nl BK455 hg
      have n15_:=nr BK455 hg
      have n16_:=nl BK456 hg
      have n17_:=nr BK456 hg
      have n18_:=nl BK457 hg
      have n19_:=nr BK457 hg
      have n20_:=nl BK458 hg
      have n21_:=nr BK458 hg
      have n22_:=nl BK467 hg
      have n23_:=nr BK467 hg
      have n24_:=nl BK468 hg
      have n25_:=nr BK468 hg
      have z_NB485_484:=fun (h0_ : up b 12 11 = true) (h1_ : up b 12 12 = true)=>(show gb485≠gb484 from((by rw [hg];exact Nat.ne_of_gt (blk_lt (g:=gb484) (o:=.cells #[.slice none 0 0,.bool false] 54 (0,0)) (by refine zk ?_;exact(Q_BK484 (by first | exact h0_ | simpa [up] using h0_) (hoff 13 (by kernel_rfl))))) : gb485≠gb484)))
      have z_NB484_485:=fun (h0_ : up b 12 11 = true) (h1_ : up b 12 12 = true)=>(show gb484≠gb485 from((by rw [hg];exact Nat.ne_of_lt (blk_lt (g:=gb484) (o:=.cells #[.slice none 0 0,.bool false] 54 (0,0)) (by refine zk ?_;exact(Q_BK484 (by first | exact h0_ | simpa [up] using h0_) (hoff 13 (by kernel_rfl))))) : gb484≠gb485)))
      have z_HO478:=fun (h0_ : b 6 = true)=>(show Kd.R (Kd.int .u32) 60 w38 w.heap.size (fun k_=>(w.heap.size≤k_)∧some k_≠(.slice Ao9003 x10_4.length co9003 : Value).ownBlock∧some k_≠(v460 : Value).ownBlock∧some k_≠(v464 : Value).ownBlock∧some k_≠(.slice Ao9002 x9_4.length co9002 : Value).ownBlock) v477 t476 from by first | exact(Kd.R_below (by refine zR ?_;exact(Q_HO478 h0_)) hb) | exact Kd.R_mono (Kd.R_below (by refine zR ?_;exact(Q_HO478 h0_)) hb) (fun _ h_=>by first | trivial | exact h_ | exact h_.1))
      have z_HO482:=fun (h0_ : b 10 = true)=>(show Kd.R (Kd.int .u32) 60 w38 w.heap.size (fun k_=>(w.heap.size≤k_)∧some k_≠(.slice Ao9003 x10_4.length co9003 : Value).ownBlock∧some k_≠(v460 : Value).ownBlock∧some k_≠(v464 : Value).ownBlock∧some k_≠(.slice Ao9002 x9_4.length co9002 : Value).ownBlock) v481 t480 from by first | exact(Kd.R_below (by refine zR ?_;exact(Q_HO482 h0_)) hb) | exact Kd.R_mono (Kd.R_below (by refine zR ?_;exact(Q_HO482 h0_)) hb) (fun _ h_=>by first | trivial | exact h_ | exact h_.1))
      have z_BK484:=fun (h0_ : b 11 = true) (h1_ : b 13 = false)=>(show w38.heap[gb484]? = some (.cells #[.slice none 0 0,.bool false] 54 (0,0)) from by first | exact(blk_below (g:=gb484) (o:=.cells #[.slice none 0 0,.bool false] 54 (0,0)) (by refine zk ?_;exact(Q_BK484 h0_ h1_)) hb))
      clear HO_9
      clear HO_10
      clear HO_468000
      clear HO_469000
      clear BK455
      clear BK456
      clear BK457
      clear BK458
      clear BK467
      clear BK468
      clear HB
      have HO_9:=n0_
      have HO_10:=n1_
      have HO_468000:=n2_
      have HO_469000:=n3_
      have BK455:=n4_
      have BK456:=n5_
      have BK457:=n6_
      have BK458:=n7_
      have BK467:=n8_
      have BK468:=n9_
      have HB:=n10_
      have BK485:=n11_
      have GW485:=n12_
      have GE485:=n13_
      have NB455_485:=n14_
      have NB485_455:=n15_
      have NB456_485:=n16_
      have NB485_456:=n17_
      have NB457_485:=n18_
      have NB485_457:=n19_
      have NB458_485:=n20_
      have NB485_458:=n21_
      have NB467_485:=n22_
      have NB485_467:=n23_
      have NB468_485:=n24_
      have NB485_468:=n25_
      clear n0_ n1_ n2_ n3_ n4_ n5_ n6_ n7_ n8_ n9_ n10_ n11_ n12_ n13_ n14_ n15_ n16_ n17_ n18_ n19_ n20_ n21_ n22_ n23_ n24_ n25_
      clear hb hbox hg
      refine hK.out _ _ ⟨v477,v481,gb484,gb485,m6_,m10_,m11_,(.pointer (some ⟨gb485,0,none⟩)),(by rw [ha.out];exact putSel_upk 7 hb_ rfl rfl rfl),(by refine zR ?_;exact Kd.R_mono HO_10.out (fun _ hk=>by first | exact⟨hk.1,⟨hk.2.2.1,⟨hk.2.2.2,hk.2.1⟩⟩⟩ | exact zD hk)),(by refine zR ?_;exact Kd.R_mono HO_468000.out (fun _ hk=>by first | exact⟨hk.1,⟨hk.2.2.1,⟨hk.2.2.2,hk.2.1⟩⟩⟩ | exact zD hk)),(by refine zR ?_;exact Kd.R_mono HO_469000.out (fun _ hk=>by first | exact⟨hk.1,⟨hk.2.2.1,⟨hk.2.2.2,hk.2.1⟩⟩⟩ | exact zD hk)),(by refine zR ?_;first | exact HO_9.out | exact Kd.R_mono HO_9.out (fun _ hk=>zD hk) | exact Kd.V_mono HO_9.out (fun _ hk=>zD hk)),(zk BK455.out),(zk BK456.out),(zk BK457.out),(zk BK458.out),(zk BK467.out),(zk BK468.out),zb,@z_NB485_484,@z_NB484_485,z_HO478,Q_AP_10_478,Q_AP_468000_478,Q_AP_469000_478,Q_AP_9_478,z_HO482,Q_AP478_482,Q_AP482_478,Q_AP_10_482,Q_AP_468000_482,Q_AP_469000_482,Q_AP_9_482,z_BK484,Q_GW484,Q_GE484,Q_NB455_484,Q_NB484_455,Q_NB456_484,Q_NB484_456,Q_NB457_484,Q_NB484_457,Q_NB458_484,Q_NB484_458,Q_NB467_484,Q_NB484_467,Q_NB468_484,Q_NB484_468,fun _ _=>(zk BK485.out),fun _=>GW485.out,fun _=>GE485.out,fun _=>NB455_485.out,fun _=>NB485_455.out,fun _=>NB456_485.out,fun _=>NB485_456.out,fun _=>NB457_485.out,fun _=>NB485_457.out,fun _=>NB458_485.out,fun _=>NB485_458.out,fun _=>NB467_485.out,fun _=>NB485_467.out,fun _=>NB468_485.out,fun _=>NB485_468.out,fun h0_=>absurd ((hoff 13 (by kernel_rfl)).symm.trans h0_) (by decide),fun h0_=>absurd ((hoff 14 (by kernel_rfl)).symm.trans h0_) (by decide),Q_X6_,Q_X10_,Q_X11_,fun _=>rfl⟩
     refine steps_cons ?_ ?_
     ·rintro b a w' ⟨v477,v481,gb484,gb485,m6_,m10_,m11_,m12_,ha,Q_HO_10,Q_HO_468000,Q_HO_469000,Q_HO_9,Q_BK455,Q_BK456,Q_BK457,Q_BK458,Q_BK467,Q_BK468,Q_HB,Q_NB485_484,Q_NB484_485,Q_HO478,Q_AP_10_478,Q_AP_468000_478,Q_AP_469000_478,Q_AP_9_478,Q_HO482,Q_AP478_482,Q_AP482_478,Q_AP_10_482,Q_AP_468000_482,Q_AP_469000_482,Q_AP_9_482,Q_BK484,Q_GW484,Q_GE484,Q_NB455_484,Q_NB484_455,Q_NB456_484,Q_NB484_456,Q_NB457_484,Q_NB484_457,Q_NB458_484,Q_NB484_458,Q_NB467_484,Q_NB484_467,Q_NB468_484,Q_NB484_468,Q_BK485,Q_GW485,Q_GE485,Q_NB455_485,Q_NB485_455,Q_NB456_485,Q_NB485_456,Q_NB457_485,Q_NB485_457,Q_NB458_485,Q_NB485_458,Q_NB467_485,Q_NB485_467,Q_NB468_485,Q_NB485_468,Q_BK484_e13,Q_BK485_e14,Q_X6_,Q_X10_,Q_X11_,Q_X12_⟩ hb_ hon hoff
      refine⟨_,rfl,fun K hK=>?_⟩
      have e12 : a.tmps[12]? = some (m11_):=by rw [ha];exact putSel_on (e:=(11,12,m11_)) 6 rfl rfl (hon 11 (by kernel_rfl)) rfl
      rw [Q_X11_ (hon 11 (by kernel_rfl))] at e12
      have e39 : a.tmps[39]? = some (m6_):=by rw [ha];exact putSel_on (e:=(6,39,m6_)) 3 rfl rfl (hon 6 (by kernel_rfl)) rfl
      rw [Q_X6_ (hon 6 (by kernel_rfl))] at e39
      replace ha:=am ha
      have HO_10:=am Q_HO_10
      have HO_468000:=am Q_HO_468000
      have HO_469000:=am Q_HO_469000
      have HO_9:=am Q_HO_9
      have BK455:=am Q_BK455
      have BK456:=am Q_BK456
      have BK457:=am Q_BK457
      have BK458:=am Q_BK458
      have BK467:=am Q_BK467
      have BK468:=am Q_BK468
      have HB:=am Q_HB
      have NB485_484:=am (Q_NB485_484 (hon 11 (by kernel_rfl)) (hon 12 (by kernel_rfl)))
      have NB484_485:=am (Q_NB484_485 (hon 11 (by kernel_rfl)) (hon 12 (by kernel_rfl)))
      have HO478:=am (Q_HO478 (hon 6 (by kernel_rfl)))
      have AP_10_478:=am (Q_AP_10_478 (hon 6 (by kernel_rfl)))
      have AP_468000_478:=am (Q_AP_468000_478 (hon 6 (by kernel_rfl)))
      have AP_469000_478:=am (Q_AP_469000_478 (hon 6 (by kernel_rfl)))
      have AP_9_478:=am (Q_AP_9_478 (hon 6 (by kernel_rfl)))
      have HO482:=am (Q_HO482 (hon 10 (by kernel_rfl)))
      have AP478_482:=am (Q_AP478_482 (hon 10 (by kernel_rfl)))
      have AP482_478:=am (Q_AP482_478 (hon 10 (by kernel_rfl)))
      have AP_10_482:=am (Q_AP_10_482 (hon 10 (by kernel_rfl)))
      have AP_468000_482:=am (Q_AP_468000_482 (hon 10 (by kernel_rfl)))
      have AP_469000_482:=am (Q_AP_469000_482 (hon 10 (by kernel_rfl)))
      have AP_9_482:=am (Q_AP_9_482 (hon 10 (by kernel_rfl)))
      have BK484:=am (Q_BK484 (hon 11 (by kernel_rfl)) hb_)
      have GW484:=am (Q_GW484 (hon 11 (by kernel_rfl)))
      have GE484:=am (Q_GE484 (hon 11 (by kernel_rfl)))
      have NB455_484:=am (Q_NB455_484 (hon 11 (by kernel_rfl)))
      have NB484_455:=am (Q_NB484_455 (hon 11 (by kernel_rfl)))
      have NB456_484:=am (Q_NB456_484 (hon 11 (by kernel_rfl)))
      have NB484_456:=am (Q_NB484_456 (hon 11 (by kernel_rfl)))
      have NB457_484:=am (Q_NB457_484 (hon 11 (by kernel_rfl)))
      have NB484_457:=am (Q_NB484_457 (hon 11 (by kernel_rfl)))
      have NB458_484:=am (Q_NB458_484 (hon 11 (by kernel_rfl)))
      have NB484_458:=am (Q_NB484_458 (hon 11 (by kernel_rfl)))
      have NB467_484:=am (Q_NB467_484 (hon 11 (by kernel_rfl)))
      have NB484_467:=am (Q_NB484_467 (hon 11 (by kernel_rfl)))
      have NB468_484:=am (Q_NB468_484 (hon 11 (by kernel_rfl)))
      have NB484_468:=am (Q_NB484_468 (hon 11 (by kernel_rfl)))
      have BK485:=am (Q_BK485 (hon 12 (by kernel_rfl)) (hoff 14 (by kernel_rfl)))
      have GW485:=am (Q_GW485 (hon 12 (by kernel_rfl)))
      have GE485:=am (Q_GE485 (hon 12 (by kernel_rfl)))
      have NB455_485:=am (Q_NB455_485 (hon 12 (by kernel_rfl)))
      have NB485_455:=am (Q_NB485_455 (hon 12 (by kernel_rfl)))
      have NB456_485:=am (Q_NB456_485 (hon 12 (by kernel_rfl)))
      have NB485_456:=am (Q_NB485_456 (hon 12 (by kernel_rfl)))
      have NB457_485:=am (Q_NB457_485 (hon 12 (by kernel_rfl)))
      have NB485_457:=am (Q_NB485_457 (hon 12 (by kernel_rfl)))
      have NB458_485:=am (Q_NB458_485 (hon 12 (by kernel_rfl)))
      have NB485_458:=am (Q_NB485_458 (hon 12 (by kernel_rfl)))
      have NB467_485:=am (Q_NB467_485 (hon 12 (by kernel_rfl)))
      have NB485_467:=am (Q_NB485_467 (hon 12 (by kernel_rfl)))
      have NB468_485:=am (Q_NB468_485 (hon 12 (by kernel_rfl)))
      have NB485_468:=am (Q_NB485_468 (hon 12 (by kernel_rfl)))
      obtain⟨Ao9004,co9004,eo9004⟩:=Kd.R_slice HO478.out
      (first | subst eo9004 |(injection eo9004 with f1_ f2_ f3_;have f4_:=f1_.symm;have f5_:=f3_.symm;clear f1_ f2_ f3_;subst f4_;subst f5_))
      have hs43 : w'.cell? ⟨gb484,0,none⟩ = some (.slice none 0 0):=(blk_cell BK484.out 0).trans rfl
      have hfs43:=blk_frozen BK484.out 0
      have hns43_0:=NB455_484.out
      have hns43_1:=NB456_484.out
      have hns43_2:=NB457_484.out
      have hns43_3:=NB458_484.out
      have hns43_4:=NB467_484.out
      have hns43_5:=NB468_484.out
      have hns43_7:=NB485_484.out
      have hms43_0:=NB484_455.out
      have hms43_1:=NB484_456.out
      have hms43_2:=NB484_457.out
      have hms43_3:=NB484_458.out
      have hms43_4:=NB484_467.out
      have hms43_5:=NB484_468.out
      have hms43_7:=NB484_485.out
      have hs44 : w'.cell? ⟨gb484,1,none⟩ = some (.bool false):=(blk_cell BK484.out 1).trans rfl
      have hfs44:=blk_frozen BK484.out 1
      have hns44_0:=NB455_484.out
      have hns44_1:=NB456_484.out
      have hns44_2:=NB457_484.out
      have hns44_3:=NB458_484.out
      have hns44_4:=NB467_484.out
      have hns44_5:=NB468_484.out
      have hns44_7:=NB485_484.out
      have hms44_0:=NB484_455.out
      have hms44_1:=NB484_456.out
      have hms44_2:=NB484_457.out
      have hms44_3:=NB484_458.out
      have hms44_4:=NB484_467.out
      have hms44_5:=NB484_468.out
      have hms44_7:=NB484_485.out
      refine skip_ (w1:=?_) (by rfl) rfl ?_ ?_
      rotate_left
      ·go_simp
       rfl
      refine hK.out _ _ ⟨.slice Ao9004 t476.length co9004,v481,gb484,gb485,m6_,m10_,m11_,m12_,(by rw [ha.out];exact putSel_none (v:=undef) rfl),(by refine zR ?_;exact Kd.R_mono (Kd.R_far (p:=⟨gb484,1,none⟩) (Kd.R_far (p:=⟨gb484,0,none⟩) (Kd.R_types HO_10.out BK484.out (by decide)) (fun _ hk=>hk.2) (.slice Ao9004 t476.length co9004)) (fun _ hk=>hk.2) (.bool t479)) (fun _ hk=>by first | exact⟨hk.1.1,⟨hk.1.2.1,⟨hk.1.2.2.1,⟨hk.1.2.2.2.1,⟨hk.1.2.2.2.2.1,hk.1.2.2.2.2.2⟩⟩⟩⟩⟩ | exact zD hk)),(by refine zR ?_;exact Kd.R_mono (Kd.R_far (p:=⟨gb484,1,none⟩) (Kd.R_far (p:=⟨gb484,0,none⟩) (Kd.R_types HO_468000.out BK484.out (by decide)) (fun _ hk=>hk.2) (.slice Ao9004 t476.length co9004)) (fun _ hk=>hk.2) (.bool t479)) (fun _ hk=>by first | exact⟨hk.1.1,⟨hk.1.2.1,⟨hk.1.2.2.1,⟨hk.1.2.2.2.1,⟨hk.1.2.2.2.2.1,hk.1.2.2.2.2.2⟩⟩⟩⟩⟩ | exact zD hk)),(by refine zR ?_;exact Kd.R_mono (Kd.R_far (p:=⟨gb484,1,none⟩) (Kd.R_far (p:=⟨gb484,0,none⟩) (Kd.R_types HO_469000.out BK484.out (by decide)) (fun _ hk=>hk.2) (.slice Ao9004 t476.length co9004)) (fun _ hk=>hk.2) (.bool t479)) (fun _ hk=>by first | exact⟨hk.1.1,⟨hk.1.2.1,⟨hk.1.2.2.1,⟨hk.1.2.2.2.1,⟨hk.1.2.2.2.2.1,hk.1.2.2.2.2.2⟩⟩⟩⟩⟩ | exact zD hk)),(by refine zR ?_;exact Kd.R_mono (Kd.R_far (p:=⟨gb484,1,none⟩) (Kd.R_far (p:=⟨gb484,0,none⟩) (Kd.R_types HO_9.out BK484.out (by decide)) (fun _ hk=>hk.2) (.slice Ao9004 t476.length co9004)) (fun _ hk=>hk.2) (.bool t479)) (fun _ hk=>by first | exact⟨hk.1.1,⟨hk.1.2.1,⟨hk.1.2.2.1,⟨hk.1.2.2.2.1,⟨hk.1.2.2.2.2.1,hk.1.2.2.2.2.2⟩⟩⟩⟩⟩ | exact zD hk)),(by refine zk ?_;refine blk_far ?_ NB455_484.out _;refine zk ?_;refine blk_far ?_ NB455_484.out _;refine zk ?_;exact BK455.out),(by refine zk ?_;refine blk_far ?_ NB456_484.out _;refine zk ?_;refine blk_far ?_ NB456_484.out _;refine zk ?_;exact BK456.out),(by refine zk ?_;refine blk_far ?_ NB457_484.out _;refine zk ?_;refine blk_far ?_ NB457_484.out _;refine zk ?_;exact BK457.out),(by refine zk ?_;refine blk_far ?_ NB458_484.out _;refine zk ?_;refine blk_far ?_ NB458_484.out _;refine zk ?_;exact BK458.out),(by refine zk ?_;refine blk_far ?_ NB467_484.out _;refine zk ?_;refine blk_far ?_ NB467_484.out _;refine zk ?_;exact BK467.out),(by refine zk ?_;refine blk_far ?_ NB468_484.out _;refine zk ?_;refine blk_far ?_ NB468_484.out _;refine zk ?_;exact BK468.out),zb,fun _ _=>NB485_484.out,fun _ _=>NB484_485.out,fun _=>(by refine zR ?_;exact Kd.R_mono (Kd.R_far (p:=⟨gb484,1,none⟩) (Kd.R_far (p:=⟨gb484,0,none⟩) (Kd.R_types HO478.out BK484.out (by decide)) (fun _ hk=>hk.2) (.slice Ao9004 t476.length co9004)) (fun _ hk=>hk.2) (.bool t479)) (fun _ hk=>by first | exact⟨hk.1.1,⟨hk.1.2.1,⟨hk.1.2.2.1,⟨hk.1.2.2.2.1,⟨hk.1.2.2.2.2.1,hk.1.2.2.2.2.2⟩⟩⟩⟩⟩ | exact zD hk)),fun _=>(by first | exact AP_10_482.out | exact AP_10_478.out | exact(fun k_ hk_=>(HO_10.out.1 k_ hk_).2.1)),fun _=>(by first | exact AP_468000_482.out | exact AP_468000_478.out | exact(fun k_ hk_=>(HO_468000.out.1 k_ hk_).2.1)),fun _=>(by first | exact AP_469000_482.out | exact AP_469000_478.out | exact(fun k_ hk_=>(HO_469000.out.1 k_ hk_).2.1)),fun _=>(by first | exact AP_9_482.out | exact AP_9_478.out | exact(fun k_ hk_=>(HO_9.out.1 k_ hk_).2.1)),fun _=>(by refine zR ?_;exact Kd.R_mono (Kd.R_far (p:=⟨gb484,1,none⟩) (Kd.R_far (p:=⟨gb484,0,none⟩) (Kd.R_types HO482.out BK484.out (by decide)) (fun _ hk=>hk.2) (.slice Ao9004 t476.length co9004)) (fun _ hk=>hk.2) (.bool t479)) (fun _ hk=>by first | exact⟨hk.1.1,⟨hk.1.2.1,⟨hk.1.2.2.1,⟨hk.1.2.2.2.1,⟨hk.1.2.2.2.2.1,hk.1.2.2.2.2.2⟩⟩⟩⟩⟩ | exact zD hk)),fun _=>(by first | exact AP478_482.out | exact(fun k_ hk_=>(HO478.out.1 k_ hk_).2.1)),fun _=>(by first | exact AP482_478.out | exact(fun k_ hk_=>(HO482.out.1 k_ hk_).2.1)),fun _=>(by first | exact AP_10_482.out | exact AP_10_478.out | exact(fun k_ hk_=>(HO_10.out.1 k_ hk_).2.2.1)),fun _=>(by first | exact AP_468000_482.out | exact AP_468000_478.out | exact(fun k_ hk_=>(HO_468000.out.1 k_ hk_).2.2.1)),fun _=>(by first | exact AP_469000_482.out | exact AP_469000_478.out | exact(fun k_ hk_=>(HO_469000.out.1 k_ hk_).2.2.1)),fun _=>(by first | exact AP_9_482.out | exact AP_9_478.out | exact(fun k_ hk_=>(HO_9.out.1 k_ hk_).2.2.1)),fun _ h1_=>absurd ((up_self b 13).symm.trans h1_) (by decide),fun _=>GW484.out,fun _=>GE484.out,fun _=>NB455_484.out,fun _=>NB484_455.out,fun _=>NB456_484.out,fun _=>NB484_456.out,fun _=>NB457_484.out,fun _=>NB484_457.out,fun _=>NB458_484.out,fun _=>NB484_458.out,fun _=>NB467_484.out,fun _=>NB484_467.out,fun _=>NB468_484.out,fun _=>NB484_468.out,fun _ _=>(by refine zk ?_;refine blk_far ?_ NB485_484.out _;refine zk ?_;refine blk_far ?_ NB485_484.out _;refine zk ?_;exact BK485.out),fun _=>GW485.out,fun _=>GE485.out,fun _=>NB455_485.out,fun _=>NB485_455.out,fun _=>NB456_485.out,fun _=>NB485_456.out,fun _=>NB457_485.out,fun _=>NB485_457.out,fun _=>NB458_485.out,fun _=>NB485_458.out,fun _=>NB467_485.out,fun _=>NB485_467.out,fun _=>NB468_485.out,fun _=>NB485_468.out,fun _=>(by refine zk ?_;refine blk_put (cs:=#[.slice Ao9004 t476.length co9004,.bool false]) ?_ 1 _ rfl;refine zk ?_;refine blk_put (cs:=#[.slice none 0 0,.bool false]) ?_ 0 _ rfl;refine zk ?_;exact BK484.out),fun h0_=>absurd ((hoff 14 (by kernel_rfl)).symm.trans h0_) (by decide),Q_X6_,Q_X10_,Q_X11_,Q_X12_⟩
     refine steps_cons ?_ ?_
     ·rintro b a w' ⟨v477,v481,gb484,gb485,m6_,m10_,m11_,m12_,ha,Q_HO_10,Q_HO_468000,Q_HO_469000,Q_HO_9,Q_BK455,Q_BK456,Q_BK457,Q_BK458,Q_BK467,Q_BK468,Q_HB,Q_NB485_484,Q_NB484_485,Q_HO478,Q_AP_10_478,Q_AP_468000_478,Q_AP_469000_478,Q_AP_9_478,Q_HO482,Q_AP478_482,Q_AP482_478,Q_AP_10_482,Q_AP_468000_482,Q_AP_469000_482,Q_AP_9_482,Q_BK484,Q_GW484,Q_GE484,Q_NB455_484,Q_NB484_455,Q_NB456_484,Q_NB484_456,Q_NB457_484,Q_NB484_457,Q_NB458_484,Q_NB484_458,Q_NB467_484,Q_NB484_467,Q_NB468_484,Q_NB484_468,Q_BK485,Q_GW485,Q_GE485,Q_NB455_485,Q_NB485_455,Q_NB456_485,Q_NB485_456,Q_NB457_485,Q_NB485_457,Q_NB458_485,Q_NB485_458,Q_NB467_485,Q_NB485_467,Q_NB468_485,Q_NB485_468,Q_BK484_e13,Q_BK485_e14,Q_X6_,Q_X10_,Q_X11_,Q_X12_⟩ hb_ hon hoff
      refine⟨_,rfl,fun K hK=>?_⟩
      have e13 : a.tmps[13]? = some (m12_):=by rw [ha];exact putSel_on (e:=(12,13,m12_)) 7 rfl rfl (hon 12 (by kernel_rfl)) rfl
      rw [Q_X12_ (hon 12 (by kernel_rfl))] at e13
      have e43 : a.tmps[43]? = some (m10_):=by rw [ha];exact putSel_on (e:=(10,43,m10_)) 5 rfl rfl (hon 10 (by kernel_rfl)) rfl
      rw [Q_X10_ (hon 10 (by kernel_rfl))] at e43
      replace ha:=am ha
      have HO_10:=am Q_HO_10
      have HO_468000:=am Q_HO_468000
      have HO_469000:=am Q_HO_469000
      have HO_9:=am Q_HO_9
      have BK455:=am Q_BK455
      have BK456:=am Q_BK456
      have BK457:=am Q_BK457
      have BK458:=am Q_BK458
      have BK467:=am Q_BK467
      have BK468:=am Q_BK468
      have HB:=am Q_HB
      have NB485_484:=am (Q_NB485_484 (hon 11 (by kernel_rfl)) (hon 12 (by kernel_rfl)))
      have NB484_485:=am (Q_NB484_485 (hon 11 (by kernel_rfl)) (hon 12 (by kernel_rfl)))
      have HO478:=am (Q_HO478 (hon 6 (by kernel_rfl)))
      have AP_10_478:=am (Q_AP_10_478 (hon 6 (by kernel_rfl)))
      have AP_468000_478:=am (Q_AP_468000_478 (hon 6 (by kernel_rfl)))
      have AP_469000_478:=am (Q_AP_469000_478 (hon 6 (by kernel_rfl)))
      have AP_9_478:=am (Q_AP_9_478 (hon 6 (by kernel_rfl)))
      have HO482:=am (Q_HO482 (hon 10 (by kernel_rfl)))
      have AP478_482:=am (Q_AP478_482 (hon 10 (by kernel_rfl)))
      have AP482_478:=am (Q_AP482_478 (hon 10 (by kernel_rfl)))
      have AP_10_482:=am (Q_AP_10_482 (hon 10 (by kernel_rfl)))
      have AP_468000_482:=am (Q_AP_468000_482 (hon 10 (by kernel_rfl)))
      have AP_469000_482:=am (Q_AP_469000_482 (hon 10 (by kernel_rfl)))
      have AP_9_482:=am (Q_AP_9_482 (hon 10 (by kernel_rfl)))
      have GW484:=am (Q_GW484 (hon 11 (by kernel_rfl)))
      have GE484:=am (Q_GE484 (hon 11 (by kernel_rfl)))
      have NB455_484:=am (Q_NB455_484 (hon 11 (by kernel_rfl)))
      have NB484_455:=am (Q_NB484_455 (hon 11 (by kernel_rfl)))
      have NB456_484:=am (Q_NB456_484 (hon 11 (by kernel_rfl)))
      have NB484_456:=am (Q_NB484_456 (hon 11 (by kernel_rfl)))
      have NB457_484:=am (Q_NB457_484 (hon 11 (by kernel_rfl)))
      have NB484_457:=am (Q_NB484_457 (hon 11 (by kernel_rfl)))
      have NB458_484:=am (Q_NB458_484 (hon 11 (by kernel_rfl)))
      have NB484_458:=am (Q_NB484_458 (hon 11 (by kernel_rfl)))
      have NB467_484:=am (Q_NB467_484 (hon 11 (by kernel_rfl)))
      have NB484_467:=am (Q_NB484_467 (hon 11 (by kernel_rfl)))
      have NB468_484:=am (Q_NB468_484 (hon 11 (by kernel_rfl)))
      have NB484_468:=am (Q_NB484_468 (hon 11 (by kernel_rfl)))
      have BK485:=am (Q_BK485 (hon 12 (by kernel_rfl)) hb_)
      have GW485:=am (Q_GW485 (hon 12 (by kernel_rfl)))
      have GE485:=am (Q_GE485 (hon 12 (by kernel_rfl)))
      have NB455_485:=am (Q_NB455_485 (hon 12 (by kernel_rfl)))
      have NB485_455:=am (Q_NB485_455 (hon 12 (by kernel_rfl)))
      have NB456_485:=am (Q_NB456_485 (hon 12 (by kernel_rfl)))
      have NB485_456:=am (Q_NB485_456 (hon 12 (by kernel_rfl)))
      have NB457_485:=am (Q_NB457_485 (hon 12 (by kernel_rfl)))
      have NB485_457:=am (Q_NB485_457 (hon 12 (by kernel_rfl)))
      have NB458_485:=am (Q_NB458_485 (hon 12 (by kernel_rfl)))
      have NB485_458:=am (Q_NB485_458 (hon 12 (by kernel_rfl)))
      have NB467_485:=am (Q_NB467_485 (hon 12 (by kernel_rfl)))
      have NB485_467:=am (Q_NB485_467 (hon 12 (by kernel_rfl)))
      have NB468_485:=am (Q_NB468_485 (hon 12 (by kernel_rfl)))
      have NB485_468:=am (Q_NB485_468 (hon 12 (by kernel_rfl)))
      have BK484:=am (Q_BK484_e13 (hon 13 (by kernel_rfl)))
      obtain⟨Ao9005,co9005,eo9005⟩:=Kd.R_slice HO482.out
      (first | subst eo9005 |(injection eo9005 with f1_ f2_ f3_;have f4_:=f1_.symm;have f5_:=f3_.symm;clear f1_ f2_ f3_;subst f4_;subst f5_))
      have hs45 : w'.cell? ⟨gb485,0,none⟩ = some (.slice none 0 0):=(blk_cell BK485.out 0).trans rfl
      have hfs45:=blk_frozen BK485.out 0
      have hns45_0:=NB455_485.out
      have hns45_1:=NB456_485.out
      have hns45_2:=NB457_485.out
      have hns45_3:=NB458_485.out
      have hns45_4:=NB467_485.out
      have hns45_5:=NB468_485.out
      have hns45_6:=NB484_485.out
      have hms45_0:=NB485_455.out
      have hms45_1:=NB485_456.out
      have hms45_2:=NB485_457.out
      have hms45_3:=NB485_458.out
      have hms45_4:=NB485_467.out
      have hms45_5:=NB485_468.out
      have hms45_6:=NB485_484.out
      have hs46 : w'.cell? ⟨gb485,1,none⟩ = some (.bool false):=(blk_cell BK485.out 1).trans rfl
      have hfs46:=blk_frozen BK485.out 1
      have hns46_0:=NB455_485.out
      have hns46_1:=NB456_485.out
      have hns46_2:=NB457_485.out
      have hns46_3:=NB458_485.out
      have hns46_4:=NB467_485.out
      have hns46_5:=NB468_485.out
      have hns46_6:=NB484_485.out
      have hms46_0:=NB485_455.out
      have hms46_1:=NB485_456.out
      have hms46_2:=NB485_457.out
      have hms46_3:=NB485_458.out
      have hms46_4:=NB485_467.out
      have hms46_5:=NB485_468.out
      have hms46_6:=NB485_484.out
      refine skip_ (w1:=?_) (by rfl) rfl ?_ ?_
      rotate_left
      ·go_simp
       rfl
      refine hK.out _ _ ⟨v477,.slice Ao9005 t480.length co9005,gb484,gb485,m6_,m10_,m11_,m12_,(by rw [ha.out];exact putSel_none (v:=undef) rfl),(by refine zR ?_;exact Kd.R_mono (Kd.R_far (p:=⟨gb485,1,none⟩) (Kd.R_far (p:=⟨gb485,0,none⟩) (Kd.R_types HO_10.out BK485.out (by decide)) (fun _ hk=>hk.2) (.slice Ao9005 t480.length co9005)) (fun _ hk=>hk.2) (.bool t483)) (fun _ hk=>by first | exact⟨hk.1.1,⟨hk.1.2.1,⟨hk.1.2.2.1,⟨hk.1.2.2.2.1,⟨hk.1.2.2.2.2.1,hk.1.2.2.2.2.2⟩⟩⟩⟩⟩ | exact zD hk)),(by refine zR ?_;exact Kd.R_mono (Kd.R_far (p:=⟨gb485,1,none⟩) (Kd.R_far (p:=⟨gb485,0,none⟩) (Kd.R_types HO_468000.out BK485.out (by decide)) (fun _ hk=>hk.2) (.slice Ao9005 t480.length co9005)) (fun _ hk=>hk.2) (.bool t483)) (fun _ hk=>by first | exact⟨hk.1.1,⟨hk.1.2.1,⟨hk.1.2.2.1,⟨hk.1.2.2.2.1,⟨hk.1.2.2.2.2.1,hk.1.2.2.2.2.2⟩⟩⟩⟩⟩ | exact zD hk)),(by refine zR ?_;exact Kd.R_mono (Kd.R_far (p:=⟨gb485,1,none⟩) (Kd.R_far (p:=⟨gb485,0,none⟩) (Kd.R_types HO_469000.out BK485.out (by decide)) (fun _ hk=>hk.2) (.slice Ao9005 t480.length co9005)) (fun _ hk=>hk.2) (.bool t483)) (fun _ hk=>by first | exact⟨hk.1.1,⟨hk.1.2.1,⟨hk.1.2.2.1,⟨hk.1.2.2.2.1,⟨hk.1.2.2.2.2.1,hk.1.2.2.2.2.2⟩⟩⟩⟩⟩ | exact zD hk)),(by refine zR ?_;exact Kd.R_mono (Kd.R_far (p:=⟨gb485,1,none⟩) (Kd.R_far (p:=⟨gb485,0,none⟩) (Kd.R_types HO_9.out BK485.out (by decide)) (fun _ hk=>hk.2) (.slice Ao9005 t480.length co9005)) (fun _ hk=>hk.2) (.bool t483)) (fun _ hk=>by first | exact⟨hk.1.1,⟨hk.1.2.1,⟨hk.1.2.2.1,⟨hk.1.2.2.2.1,⟨hk.1.2.2.2.2.1,hk.1.2.2.2.2.2⟩⟩⟩⟩⟩ | exact zD hk)),(by refine zk ?_;refine blk_far ?_ NB455_485.out _;refine zk ?_;refine blk_far ?_ NB455_485.out _;refine zk ?_;exact BK455.out),(by refine zk ?_;refine blk_far ?_ NB456_485.out _;refine zk ?_;refine blk_far ?_ NB456_485.out _;refine zk ?_;exact BK456.out),(by refine zk ?_;refine blk_far ?_ NB457_485.out _;refine zk ?_;refine blk_far ?_ NB457_485.out _;refine zk ?_;exact BK457.out),(by refine zk ?_;refine blk_far ?_ NB458_485.out _;refine zk ?_;refine blk_far ?_ NB458_485.out _;refine zk ?_;exact BK458.out),(by refine zk ?_;refine blk_far ?_ NB467_485.out _;refine zk ?_;refine blk_far ?_ NB467_485.out _;refine zk ?_;exact BK467.out),(by refine zk ?_;refine blk_far ?_ NB468_485.out _;refine zk ?_;refine blk_far ?_ NB468_485.out _;refine zk ?_;exact BK468.out),zb,fun _ _=>NB485_484.out,fun _ _=>NB484_485.out,fun _=>(by refine zR ?_;exact Kd.R_mono (Kd.R_far (p:=⟨gb485,1,none⟩) (Kd.R_far (p:=⟨gb485,0,none⟩) (Kd.R_types HO478.out BK485.out (by decide)) (fun _ hk=>hk.2) (.slice Ao9005 t480.length co9005)) (fun _ hk=>hk.2) (.bool t483)) (fun _ hk=>by first | exact⟨hk.1.1,⟨hk.1.2.1,⟨hk.1.2.2.1,⟨hk.1.2.2.2.1,⟨hk.1.2.2.2.2.1,hk.1.2.2.2.2.2⟩⟩⟩⟩⟩ | exact zD hk)),fun _=>(by first | exact AP_10_482.out | exact AP_10_478.out | exact(fun k_ hk_=>(HO_10.out.1 k_ hk_).2.1)),fun _=>(by first | exact AP_468000_482.out | exact AP_468000_478.out | exact(fun k_ hk_=>(HO_468000.out.1 k_ hk_).2.1)),fun _=>(by first | exact AP_469000_482.out | exact AP_469000_478.out | exact(fun k_ hk_=>(HO_469000.out.1 k_ hk_).2.1)),fun _=>(by first | exact AP_9_482.out | exact AP_9_478.out | exact(fun k_ hk_=>(HO_9.out.1 k_ hk_).2.1)),fun _=>(by refine zR ?_;exact Kd.R_mono (Kd.R_far (p:=⟨gb485,1,none⟩) (Kd.R_far (p:=⟨gb485,0,none⟩) (Kd.R_types HO482.out BK485.out (by decide)) (fun _ hk=>hk.2) (.slice Ao9005 t480.length co9005)) (fun _ hk=>hk.2) (.bool t483)) (fun _ hk=>by first | exact⟨hk.1.1,⟨hk.1.2.1,⟨hk.1.2.2.1,⟨hk.1.2.2.2.1,⟨hk.1.2.2.2.2.1,hk.1.2.2.2.2.2⟩⟩⟩⟩⟩ | exact zD hk)),fun _=>(by first | exact AP478_482.out | exact(fun k_ hk_=>(HO478.out.1 k_ hk_).2.1)),fun _=>(by first | exact AP482_478.out | exact(fun k_ hk_=>(HO482.out.1 k_ hk_).2.1)),fun _=>(by first | exact AP_10_482.out | exact AP_10_478.out | exact(fun k_ hk_=>(HO_10.out.1 k_ hk_).2.2.1)),fun _=>(by first | exact AP_468000_482.out | exact AP_468000_478.out | exact(fun k_ hk_=>(HO_468000.out.1 k_ hk_).2.2.1)),fun _=>(by first | exact AP_469000_482.out | exact AP_469000_478.out | exact(fun k_ hk_=>(HO_469000.out.1 k_ hk_).2.2.1)),fun _=>(by first | exact AP_9_482.out | exact AP_9_478.out | exact(fun k_ hk_=>(HO_9.out.1 k_ hk_).2.2.1)),fun _ h1_=>absurd ((hon 13 (by kernel_rfl)).symm.trans h1_) (by decide),fun _=>GW484.out,fun _=>GE484.out,fun _=>NB455_484.out,fun _=>NB484_455.out,fun _=>NB456_484.out,fun _=>NB484_456.out,fun _=>NB457_484.out,fun _=>NB484_457.out,fun _=>NB458_484.out,fun _=>NB484_458.out,fun _=>NB467_484.out,fun _=>NB484_467.out,fun _=>NB468_484.out,fun _=>NB484_468.out,fun _ h1_=>absurd ((up_self b 14).symm.trans h1_) (by decide),fun _=>GW485.out,fun _=>GE485.out,fun _=>NB455_485.out,fun _=>NB485_455.out,fun _=>NB456_485.out,fun _=>NB485_456.out,fun _=>NB457_485.out,fun _=>NB485_457.out,fun _=>NB458_485.out,fun _=>NB485_458.out,fun _=>NB467_485.out,fun _=>NB485_467.out,fun _=>NB468_485.out,fun _=>NB485_468.out,fun _=>(by refine zk ?_;refine blk_far ?_ NB484_485.out _;refine zk ?_;refine blk_far ?_ NB484_485.out _;refine zk ?_;exact BK484.out),fun _=>(by refine zk ?_;refine blk_put (cs:=#[.slice Ao9005 t480.length co9005,.bool false]) ?_ 1 _ rfl;refine zk ?_;refine blk_put (cs:=#[.slice none 0 0,.bool false]) ?_ 0 _ rfl;refine zk ?_;exact BK485.out),Q_X6_,Q_X10_,Q_X11_,Q_X12_⟩
     exact steps_nil
    rintro b a w46 hall ⟨v477,v481,gb484,gb485,m6_,m10_,m11_,m12_,ha,Q_HO_10,Q_HO_468000,Q_HO_469000,Q_HO_9,Q_BK455,Q_BK456,Q_BK457,Q_BK458,Q_BK467,Q_BK468,Q_HB,Q_NB485_484,Q_NB484_485,Q_HO478,Q_AP_10_478,Q_AP_468000_478,Q_AP_469000_478,Q_AP_9_478,Q_HO482,Q_AP478_482,Q_AP482_478,Q_AP_10_482,Q_AP_468000_482,Q_AP_469000_482,Q_AP_9_482,Q_BK484,Q_GW484,Q_GE484,Q_NB455_484,Q_NB484_455,Q_NB456_484,Q_NB484_456,Q_NB457_484,Q_NB484_457,Q_NB458_484,Q_NB484_458,Q_NB467_484,Q_NB484_467,Q_NB468_484,Q_NB484_468,Q_BK485,Q_GW485,Q_GE485,Q_NB455_485,Q_NB485_455,Q_NB456_485,Q_NB485_456,Q_NB457_485,Q_NB485_457,Q_NB458_485,Q_NB485_458,Q_NB467_485,Q_NB485_467,Q_NB468_485,Q_NB485_468,Q_BK484_e13,Q_BK485_e14,Q_X6_,Q_X10_,Q_X11_,Q_X12_⟩
    clear BK455 BK456 BK457 BK458 BK467 BK468 HB HO_10 HO_468000 HO_469000 HO_9
    have hb2_:=hall 2 (by kernel_rfl)
    have hb4_:=hall 4 (by kernel_rfl)
    have hb5_:=hall 5 (by kernel_rfl)
    have hb6_:=hall 6 (by kernel_rfl)
    have hb9_:=hall 9 (by kernel_rfl)
    have hb10_:=hall 10 (by kernel_rfl)
    have hb11_:=hall 11 (by kernel_rfl)
    have hb12_:=hall 12 (by kernel_rfl)
    have hb13_:=hall 13 (by kernel_rfl)
    have hb14_:=hall 14 (by kernel_rfl)
    subst ha
    obtain rfl:=Q_X6_ hb6_
    obtain rfl:=Q_X10_ hb10_
    obtain rfl:=Q_X11_ hb11_
    obtain rfl:=Q_X12_ hb12_
    simp only [putSel,hb2_,hb4_,hb5_,hb6_,hb9_,hb10_,hb11_,hb12_,hb13_,hb14_,if_true,Act.put,sA,sZ,sS]
    have HO_10:=am Q_HO_10
    clear Q_HO_10
    have HO_468000:=am Q_HO_468000
    clear Q_HO_468000
    have HO_469000:=am Q_HO_469000
    clear Q_HO_469000
    have HO_9:=am Q_HO_9
    clear Q_HO_9
    have BK455:=am Q_BK455
    clear Q_BK455
    have BK456:=am Q_BK456
    clear Q_BK456
    have BK457:=am Q_BK457
    clear Q_BK457
    have BK458:=am Q_BK458
    clear Q_BK458
    have BK467:=am Q_BK467
    clear Q_BK467
    have BK468:=am Q_BK468
    clear Q_BK468
    have HB:=am Q_HB
    clear Q_HB
    have NB485_484:=am (Q_NB485_484 hb11_ hb12_)
    clear Q_NB485_484
    have NB484_485:=am (Q_NB484_485 hb11_ hb12_)
    clear Q_NB484_485
    have HO478:=am (Q_HO478 hb6_)
    clear Q_HO478
    have AP_10_478:=am (Q_AP_10_478 hb6_)
    clear Q_AP_10_478
    have AP_468000_478:=am (Q_AP_468000_478 hb6_)
    clear Q_AP_468000_478
    have AP_469000_478:=am (Q_AP_469000_478 hb6_)
    clear Q_AP_469000_478
    have AP_9_478:=am (Q_AP_9_478 hb6_)
    clear Q_AP_9_478
    have HO482:=am (Q_HO482 hb10_)
    clear Q_HO482
    have AP478_482:=am (Q_AP478_482 hb10_)
    clear Q_AP478_482
    have AP482_478:=am (Q_AP482_478 hb10_)
    clear Q_AP482_478
    have AP_10_482:=am (Q_AP_10_482 hb10_)
    clear Q_AP_10_482
    have AP_468000_482:=am (Q_AP_468000_482 hb10_)
    clear Q_AP_468000_482
    have AP_469000_482:=am (Q_AP_469000_482 hb10_)
    clear Q_AP_469000_482
    have AP_9_482:=am (Q_AP_9_482 hb10_)
    clear Q_AP_9_482
    clear Q_BK484
    have GW484:=am (Q_GW484 hb11_)
    clear Q_GW484
    have GE484:=am (Q_GE484 hb11_)
    clear Q_GE484
    have NB455_484:=am (Q_NB455_484 hb11_)
    clear Q_NB455_484
    have NB484_455:=am (Q_NB484_455 hb11_)
    clear Q_NB484_455
    have NB456_484:=am (Q_NB456_484 hb11_)
    clear Q_NB456_484
    have NB484_456:=am (Q_NB484_456 hb11_)
    clear Q_NB484_456
    have NB457_484:=am (Q_NB457_484 hb11_)
    clear Q_NB457_484
    have NB484_457:=am (Q_NB484_457 hb11_)
    clear Q_NB484_457
    have NB458_484:=am (Q_NB458_484 hb11_)
    clear Q_NB458_484
    have NB484_458:=am (Q_NB484_458 hb11_)
    clear Q_NB484_458
    have NB467_484:=am (Q_NB467_484 hb11_)
    clear Q_NB467_484
    have NB484_467:=am (Q_NB484_467 hb11_)
    clear Q_NB484_467
    have NB468_484:=am (Q_NB468_484 hb11_)
    clear Q_NB468_484
    have NB484_468:=am (Q_NB484_468 hb11_)
    clear Q_NB484_468
    clear Q_BK485
    have GW485:=am (Q_GW485 hb12_)
    clear Q_GW485
    have GE485:=am (Q_GE485 hb12_)
    clear Q_GE485
    have NB455_485:=am (Q_NB455_485 hb12_)
    clear Q_NB455_485
    have NB485_455:=am (Q_NB485_455 hb12_)
    clear Q_NB485_455
    have NB456_485:=am (Q_NB456_485 hb12_)
    clear Q_NB456_485
    have NB485_456:=am (Q_NB485_456 hb12_)
    clear Q_NB485_456
    have NB457_485:=am (Q_NB457_485 hb12_)
    clear Q_NB457_485
    have NB485_457:=am (Q_NB485_457 hb12_)
    clear Q_NB485_457
    have NB458_485:=am (Q_NB458_485 hb12_)
    clear Q_NB458_485
    have NB485_458:=am (Q_NB485_458 hb12_)
    clear Q_NB485_458
    have NB467_485:=am (Q_NB467_485 hb12_)
    clear Q_NB467_485
    have NB485_467:=am (Q_NB485_467 hb12_)
    clear Q_NB485_467
    have NB468_485:=am (Q_NB468_485 hb12_)
    clear Q_NB468_485
    have NB485_468:=am (Q_NB485_468 hb12_)
    clear Q_NB485_468
    have BK484:=am (Q_BK484_e13 hb13_)
    clear Q_BK484_e13
    have BK485:=am (Q_BK485_e14 hb14_)
    clear Q_BK485_e14
    clear hall hb2_ hb4_ hb5_ hb6_ hb9_ hb10_ hb11_ hb12_ hb13_ hb14_
    replace HO478:=am (show Kd.R (Kd.int .u32) 60 w46 w.heap.size (fun k_=>(w.heap.size≤k_)∧some k_≠(v481 : Value).ownBlock∧some k_≠(.slice Ao9003 x10_4.length co9003 : Value).ownBlock∧some k_≠(v460 : Value).ownBlock∧some k_≠(v464 : Value).ownBlock∧some k_≠(.slice Ao9002 x9_4.length co9002 : Value).ownBlock) v477 t476 from R_re HO478.out (fun k_ h_=>by have h0_:=HO478.out.1 k_ h_;(repeat' apply And.intro) <;> first | exact zD h0_ | exact AP478_482.out k_ h_))
    replace HO482:=am (show Kd.R (Kd.int .u32) 60 w46 w.heap.size (fun k_=>(w.heap.size≤k_)∧some k_≠(v477 : Value).ownBlock∧some k_≠(.slice Ao9003 x10_4.length co9003 : Value).ownBlock∧some k_≠(v460 : Value).ownBlock∧some k_≠(v464 : Value).ownBlock∧some k_≠(.slice Ao9002 x9_4.length co9002 : Value).ownBlock) v481 t480 from R_re HO482.out (fun k_ h_=>by have h0_:=HO482.out.1 k_ h_;(repeat' apply And.intro) <;> first | exact zD h0_ | exact AP482_478.out k_ h_))
    replace HO_10:=am (show Kd.R (Kd.int .u32) 60 w46 w.heap.size (fun k_=>(w.heap.size≤k_)∧some k_≠(v477 : Value).ownBlock∧some k_≠(v481 : Value).ownBlock∧some k_≠(v460 : Value).ownBlock∧some k_≠(v464 : Value).ownBlock∧some k_≠(.slice Ao9002 x9_4.length co9002 : Value).ownBlock) (.slice Ao9003 x10_4.length co9003) x10_4 from R_re HO_10.out (fun k_ h_=>by have h0_:=HO_10.out.1 k_ h_;(repeat' apply And.intro) <;> first | exact zD h0_ | exact AP_10_478.out k_ h_ | exact AP_10_482.out k_ h_))
    replace HO_468000:=am (show Kd.R (Kd.int .u32) 60 w46 w.heap.size (fun k_=>(w.heap.size≤k_)∧some k_≠(v477 : Value).ownBlock∧some k_≠(v481 : Value).ownBlock∧some k_≠(.slice Ao9003 x10_4.length co9003 : Value).ownBlock∧some k_≠(v464 : Value).ownBlock∧some k_≠(.slice Ao9002 x9_4.length co9002 : Value).ownBlock) v460 t459 from R_re HO_468000.out (fun k_ h_=>by have h0_:=HO_468000.out.1 k_ h_;(repeat' apply And.intro) <;> first | exact zD h0_ | exact AP_468000_478.out k_ h_ | exact AP_468000_482.out k_ h_))
    replace HO_469000:=am (show Kd.R (Kd.int .u32) 60 w46 w.heap.size (fun k_=>(w.heap.size≤k_)∧some k_≠(v477 : Value).ownBlock∧some k_≠(v481 : Value).ownBlock∧some k_≠(.slice Ao9003 x10_4.length co9003 : Value).ownBlock∧some k_≠(v460 : Value).ownBlock∧some k_≠(.slice Ao9002 x9_4.length co9002 : Value).ownBlock) v464 t463 from R_re HO_469000.out (fun k_ h_=>by have h0_:=HO_469000.out.1 k_ h_;(repeat' apply And.intro) <;> first | exact zD h0_ | exact AP_469000_478.out k_ h_ | exact AP_469000_482.out k_ h_))
    replace HO_9:=am (show Kd.R (Kd.int .u32) 60 w46 w.heap.size (fun k_=>(w.heap.size≤k_)∧some k_≠(v477 : Value).ownBlock∧some k_≠(v481 : Value).ownBlock∧some k_≠(.slice Ao9003 x10_4.length co9003 : Value).ownBlock∧some k_≠(v460 : Value).ownBlock∧some k_≠(v464 : Value).ownBlock) (.slice Ao9002 x9_4.length co9002) x9_4 from R_re HO_9.out (fun k_ h_=>by have h0_:=HO_9.out.1 k_ h_;(repeat' apply And.intro) <;> first | exact zD h0_ | exact AP_9_478.out k_ h_ | exact AP_9_482.out k_ h_))
    go_upto_region 6 with(fail)
    go_cut [54] (fun v54 wc=>∃ (kq : Nat) (x54_35 : Bool),v54 = .bool x54_35∧Aside0 (num_DivMod.j1 kq x54_35 t463 t466 t476 t479 t480 t483 = some (r1,r2,r3,r4,r5))∧Aside0 (kq≤kj4)∧Aside0 (Kd.R (Kd.int .u32) 60 wc w.heap.size (fun k_=>(w.heap.size≤k_)∧some k_≠(v464 : Value).ownBlock∧some k_≠(v477 : Value).ownBlock∧some k_≠(v481 : Value).ownBlock) v460 t459)∧Aside0 (Kd.R (Kd.int .u32) 60 wc w.heap.size (fun k_=>(w.heap.size≤k_)∧some k_≠(v460 : Value).ownBlock∧some k_≠(v477 : Value).ownBlock∧some k_≠(v481 : Value).ownBlock) v464 t463)∧Aside0 (Kd.R (Kd.int .u32) 60 wc w.heap.size (fun k_=>(w.heap.size≤k_)∧some k_≠(v460 : Value).ownBlock∧some k_≠(v464 : Value).ownBlock∧some k_≠(v481 : Value).ownBlock) v477 t476)∧Aside0 (Kd.R (Kd.int .u32) 60 wc w.heap.size (fun k_=>(w.heap.size≤k_)∧some k_≠(v460 : Value).ownBlock∧some k_≠(v464 : Value).ownBlock∧some k_≠(v477 : Value).ownBlock) v481 t480)∧Aside0 (wc.heap[gb455]? = some (.cells #[.bool a0_0,(.slice A0_1 l0_1.length c0_1)] 25 (0,0)))∧Aside0 (wc.heap[gb456]? = some (.cells #[.bool a1_0,(.slice A1_1 l1_1.length c1_1)] 25 (0,0)))∧Aside0 (wc.heap[gb457]? = some (.cells #[.bool false,(.slice none 0 0)] 25 (0,0)))∧Aside0 (wc.heap[gb458]? = some (.cells #[.bool false,(.slice none 0 0)] 25 (0,0)))∧Aside0 (wc.heap[gb467]? = some (.cells #[v460,.bool t462] 54 (0,0)))∧Aside0 (wc.heap[gb468]? = some (.cells #[v464,.bool t466] 54 (0,0)))∧Aside0 (wc.heap[gb484]? = some (.cells #[v477,.bool t479] 54 (0,0)))∧Aside0 (wc.heap[gb485]? = some (.cells #[v481,.bool t483] 54 (0,0)))∧Aside0 (Below w.heap.size w wc))
    case first=>
     have H:=HC36.out
     clear HC36
     by_cases c47 : (t462 != t466) = true
     ·rw [if_pos c47] at H
      have c47b0 : (t462 != t466) = true:=c47
      (try (have c47b1 : decide (t462 = t466) = false:=by simpa using c47))
      (try (have c47b2 : (t462 == t466) = false:=by simpa using c47))
      (try (have c47b3 : ¬ (t462 = t466):=by simpa using c47))
      clear c47
      (first | rw [c47b0] |(simp only [i64_w,i32_w];rw [c47b0]) | rw [c47b1] | skip)
      replace H:=Option.bind_eq_some_iff.mp H
      obtain⟨t486,A480,H⟩:=H
      try dsimp only at H
      have A48:=am A480
      clear A480
      have H':=am H
      clear H
      have hnb49:=NB467_455.out
      have hnc49:=NB455_467.out
      have hnb50:=NB467_456.out
      have hnc50:=NB456_467.out
      have hnb51:=NB467_457.out
      have hnc51:=NB457_467.out
      have hnb52:=NB467_458.out
      have hnc52:=NB458_467.out
      have hnb53:=NB467_468.out
      have hnc53:=NB468_467.out
      have hnb54:=NB467_484.out
      have hnc54:=NB484_467.out
      have hnb55:=NB467_485.out
      have hnc55:=NB485_467.out
      have hcz56_0 : w46.cell? ⟨gb467,0,none⟩ = some (v460):=(blk_cell BK467.out 0).trans rfl
      have hcz56_1 : w46.cell? ⟨gb467,1,none⟩ = some (.bool t462):=(blk_cell BK467.out 1).trans rfl
      have hfz56_0:=blk_frozen BK467.out 0
      have hfz56_1:=blk_frozen BK467.out 1
      have hnb57:=NB468_455.out
      have hnc57:=NB455_468.out
      have hnb58:=NB468_456.out
      have hnc58:=NB456_468.out
      have hnb59:=NB468_457.out
      have hnc59:=NB457_468.out
      have hnb60:=NB468_458.out
      have hnc60:=NB458_468.out
      have hnb61:=NB468_484.out
      have hnc61:=NB484_468.out
      have hnb62:=NB468_485.out
      have hnc62:=NB485_468.out
      have hcz63_0 : w46.cell? ⟨gb468,0,none⟩ = some (v464):=(blk_cell BK468.out 0).trans rfl
      have hcz63_1 : w46.cell? ⟨gb468,1,none⟩ = some (.bool t466):=(blk_cell BK468.out 1).trans rfl
      have hfz63_0:=blk_frozen BK468.out 0
      have hfz63_1:=blk_frozen BK468.out 1
      have hnb64:=NB485_455.out
      have hnc64:=NB455_485.out
      have hnb65:=NB485_456.out
      have hnc65:=NB456_485.out
      have hnb66:=NB485_457.out
      have hnc66:=NB457_485.out
      have hnb67:=NB485_458.out
      have hnc67:=NB458_485.out
      have hnb68:=NB485_484.out
      have hnc68:=NB484_485.out
      have hcz69_0 : w46.cell? ⟨gb485,0,none⟩ = some (v481):=(blk_cell BK485.out 0).trans rfl
      have hcz69_1 : w46.cell? ⟨gb485,1,none⟩ = some (.bool t483):=(blk_cell BK485.out 1).trans rfl
      have hfz69_0:=blk_frozen BK485.out 0
      have hfz69_1:=blk_frozen BK485.out 1
      obtain⟨Ao9005,co9005,eo9005⟩:=Kd.R_slice HO482.out
      subst eo9005
      go_wp2_with (first |(go_at_call 44;(with_reducible refine(num_size_zero.calls _ _ t480 t486 _ ?side1 ?side2 A48.out).mono ?_);(case side1=>exact zC (Kd.R_reads' HO482.out).2.2);(case side2=>exact(Kd.R_reads' HO482.out).2.1);rintro e w70 ⟨rfl,hb⟩;replace HO_9:=rb HO_9 hb;replace HO_10:=rb HO_10 hb;replace HO_468000:=rb HO_468000 hb;replace HO_469000:=rb HO_469000 hb;replace HO478:=rb HO478 hb;replace HO482:=rb HO482 hb;replace BK455:=kb BK455 hb;replace BK456:=kb BK456 hb;replace BK457:=kb BK457 hb;replace BK458:=kb BK458 hb;replace BK467:=kb BK467 hb;replace BK468:=kb BK468 hb;replace BK484:=kb BK484 hb;replace BK485:=kb BK485 hb;replace HB:=am (below_step zb hb);(try clear hb);skip))
      go_meet
      case rel=>exact⟨_,(!t486),ze,H',⟨by have:=HJ4.out;first | omega | exact Nat.le_refl _⟩,⟨by refine zR ?_;exact Kd.R_mono HO_468000.out (fun _ hk=>by first | exact⟨hk.1,⟨hk.2.2.2.2.1,⟨hk.2.1,hk.2.2.1⟩⟩⟩ | exact zD hk)⟩,⟨by refine zR ?_;exact Kd.R_mono HO_469000.out (fun _ hk=>by first | exact⟨hk.1,⟨hk.2.2.2.2.1,⟨hk.2.1,hk.2.2.1⟩⟩⟩ | exact zD hk)⟩,⟨by refine zR ?_;exact Kd.R_mono HO478.out (fun _ hk=>by first | exact⟨hk.1,⟨hk.2.2.2.1,⟨hk.2.2.2.2.1,hk.2.1⟩⟩⟩ | exact zD hk)⟩,⟨by refine zR ?_;exact Kd.R_mono HO482.out (fun _ hk=>by first | exact⟨hk.1,⟨hk.2.2.2.1,⟨hk.2.2.2.2.1,hk.2.1⟩⟩⟩ | exact zD hk)⟩,⟨zk BK455.out⟩,⟨zk BK456.out⟩,⟨zk BK457.out⟩,⟨zk BK458.out⟩,⟨zk BK467.out⟩,⟨zk BK468.out⟩,⟨zk BK484.out⟩,⟨zk BK485.out⟩,⟨zb⟩⟩
     ·rw [if_neg c47] at H
      have c47b0 : (t462 != t466) = false:=by simpa using c47
      (try (have c47b1 : decide (t462 = t466) = true:=by simpa using c47))
      (try (have c47b2 : (t462 == t466) = true:=by simpa using c47))
      clear c47
      (first | rw [c47b0] |(simp only [i64_w,i32_w];rw [c47b0]) | rw [c47b1] | skip)
      have H':=am H
      clear H
      have hnb71:=NB467_455.out
      have hnc71:=NB455_467.out
      have hnb72:=NB467_456.out
      have hnc72:=NB456_467.out
      have hnb73:=NB467_457.out
      have hnc73:=NB457_467.out
      have hnb74:=NB467_458.out
      have hnc74:=NB458_467.out
      have hnb75:=NB467_468.out
      have hnc75:=NB468_467.out
      have hnb76:=NB467_484.out
      have hnc76:=NB484_467.out
      have hnb77:=NB467_485.out
      have hnc77:=NB485_467.out
      have hcz78_0 : w46.cell? ⟨gb467,0,none⟩ = some (v460):=(blk_cell BK467.out 0).trans rfl
      have hcz78_1 : w46.cell? ⟨gb467,1,none⟩ = some (.bool t462):=(blk_cell BK467.out 1).trans rfl
      have hfz78_0:=blk_frozen BK467.out 0
      have hfz78_1:=blk_frozen BK467.out 1
      have hnb79:=NB468_455.out
      have hnc79:=NB455_468.out
      have hnb80:=NB468_456.out
      have hnc80:=NB456_468.out
      have hnb81:=NB468_457.out
      have hnc81:=NB457_468.out
      have hnb82:=NB468_458.out
      have hnc82:=NB458_468.out
      have hnb83:=NB468_484.out
      have hnc83:=NB484_468.out
      have hnb84:=NB468_485.out
      have hnc84:=NB485_468.out
      have hcz85_0 : w46.cell? ⟨gb468,0,none⟩ = some (v464):=(blk_cell BK468.out 0).trans rfl
      have hcz85_1 : w46.cell? ⟨gb468,1,none⟩ = some (.bool t466):=(blk_cell BK468.out 1).trans rfl
      have hfz85_0:=blk_frozen BK468.out 0
      have hfz85_1:=blk_frozen BK468.out 1
      go_wp2
      go_meet
      case rel=>exact⟨_,(false),ze,H',⟨by have:=HJ4.out;first | omega | exact Nat.le_refl _⟩,⟨by refine zR ?_;exact Kd.R_mono HO_468000.out (fun _ hk=>by first | exact⟨hk.1,⟨hk.2.2.2.2.1,⟨hk.2.1,hk.2.2.1⟩⟩⟩ | exact zD hk)⟩,⟨by refine zR ?_;exact Kd.R_mono HO_469000.out (fun _ hk=>by first | exact⟨hk.1,⟨hk.2.2.2.2.1,⟨hk.2.1,hk.2.2.1⟩⟩⟩ | exact zD hk)⟩,⟨by refine zR ?_;exact Kd.R_mono HO478.out (fun _ hk=>by first | exact⟨hk.1,⟨hk.2.2.2.1,⟨hk.2.2.2.2.1,hk.2.1⟩⟩⟩ | exact zD hk)⟩,⟨by refine zR ?_;exact Kd.R_mono HO482.out (fun _ hk=>by first | exact⟨hk.1,⟨hk.2.2.2.1,⟨hk.2.2.2.2.1,hk.2.1⟩⟩⟩ | exact zD hk)⟩,⟨zk BK455.out⟩,⟨zk BK456.out⟩,⟨zk BK457.out⟩,⟨zk BK458.out⟩,⟨zk BK467.out⟩,⟨zk BK468.out⟩,⟨zk BK484.out⟩,⟨zk BK485.out⟩,⟨zb⟩⟩
    case rest=>
     clear HC36
     try clear c1
     try clear p2
     try clear c4
     try clear c5
     try clear c6
     try clear c7
     try clear c8
     try clear c47
     try clear c47b0
     try clear c47b1
     try clear c47b2
     try clear c49
     try clear c50
     try clear c51
     try clear c52
     try clear c53
     try clear c54
     try clear c55
     try clear c57
     try clear c58
     try clear c59
     try clear c60
     try clear c61
     try clear c62
     try clear c64
     try clear c65
     try clear c66
     try clear c67
     try clear c68
     try clear c71
     try clear c72
     try clear c73
     try clear c74
     try clear c75
     try clear c76
     try clear c77
     try clear c79
     try clear c80
     try clear c81
     try clear c82
     try clear c83
     try clear c84
     try clear hcz56_0
     try clear hcz56_1
     try clear hcz63_0
     try clear hcz63_1
     try clear hcz69_0
     try clear hcz69_1
     try clear hcz78_0
     try clear hcz78_1
     try clear hcz85_0
     try clear hcz85_1
     try clear hfz56_0
     try clear hfz56_1
     try clear hfz63_0
     try clear hfz63_1
     try clear hfz69_0
     try clear hfz69_1
     try clear hfz78_0
     try clear hfz78_1
     try clear hfz85_0
     try clear hfz85_1
     obtain⟨kq,x54_35,rfl,HA,HJ35,HO_468000,HO_469000,HO_485000,HO_486000,BK455,BK456,BK457,BK458,BK467,BK468,BK484,BK485,HB⟩:=hcut
     cases kq with
     | zero=>exact absurd HA.out (by simp [num_DivMod.j1])
     | succ kj35=>
      have H:=HA.out
      clear HA
      simp only [num_DivMod.j1] at H
      by_cases c86 : x54_35 = true
      ·subst c86
       have H1 : ((num_small.f kj35 1 true).bind fun bt487=>((num_number_plus.f kj35 t476 t479 bt487.1 bt487.2).bind fun bt491=>((num_number_turned.f t480 t483).bind fun bt495=>((num_number_plus.f kj35 t463 t466 bt495.1 bt495.2).bind fun bt499=>((num_number_out.f bt491.1 bt491.2).bind fun bt503=>((num_number_out.f bt499.1 bt499.2).bind fun bt507=>(some (bt503.1,bt503.2,bt507.1,bt507.2,0)))))))) = some (r1,r2,r3,r4,r5):=by rw [if_pos rfl] at H;exact H
       clear H
       have H:=H1
       clear H1
       replace H:=Option.bind_eq_some_iff.mp H
       obtain⟨⟨t487,t490⟩,A870,H⟩:=H
       try dsimp only at H
       have A87:=am A870
       clear A870
       replace H:=Option.bind_eq_some_iff.mp H
       obtain⟨⟨t491,t494⟩,A880,H⟩:=H
       try dsimp only at H
       have A88:=am A880
       clear A880
       replace H:=Option.bind_eq_some_iff.mp H
       obtain⟨⟨t495,t498⟩,A890,H⟩:=H
       try dsimp only at H
       have A89:=am A890
       clear A890
       replace H:=Option.bind_eq_some_iff.mp H
       obtain⟨⟨t499,t502⟩,A900,H⟩:=H
       try dsimp only at H
       have A90:=am A900
       clear A900
       replace H:=Option.bind_eq_some_iff.mp H
       obtain⟨⟨t503,t504⟩,A910,H⟩:=H
       try dsimp only at H
       have A91:=am A910
       clear A910
       replace H:=Option.bind_eq_some_iff.mp H
       obtain⟨⟨t507,t508⟩,A920,H⟩:=H
       try dsimp only at H
       have A92:=am A920
       clear A920
       simp only [Option.some.injEq,Prod.mk.injEq] at H
       obtain⟨rfl,rfl,rfl,rfl,rfl⟩:=H
       try go_wp2
       replace HO_468000:=am (Kd.R_drew HO_468000.out)
       replace HO_469000:=am (Kd.R_drew HO_469000.out)
       replace HO_485000:=am (Kd.R_drew HO_485000.out)
       replace HO_486000:=am (Kd.R_drew HO_486000.out)
       replace BK455:=am (blk_drew BK455.out)
       replace BK456:=am (blk_drew BK456.out)
       replace BK457:=am (blk_drew BK457.out)
       replace BK458:=am (blk_drew BK458.out)
       replace BK467:=am (blk_drew BK467.out)
       replace BK468:=am (blk_drew BK468.out)
       replace BK484:=am (blk_drew BK484.out)
       replace BK485:=am (blk_drew BK485.out)
       replace HB:=am (below_drew1 HB.out)
       refine start_ (n:=4) (S:=fun w'=>w'.cell? ⟨gb484,0,none⟩ = some (v477)∧w'.cell? ⟨gb484,1,none⟩ = some (.bool t479)) (ds:=[3]) #[ff,ff,ff,ff] (by kernel_rfl) rfl rfl ⟨(blk_cell BK484.out 0).trans rfl,(blk_cell BK484.out 1).trans rfl⟩ (fun hHeld=>?_)
       generalize wc.drew = w93 at HO_468000 HO_469000 HO_485000 HO_486000 BK455 BK456 BK457 BK458 BK467 BK468 BK484 BK485 HB hHeld ⊢
       refine take_ (i:=0) (N:=some 55) (v:=?_) (a':=?_) #[tt,ff,ff,ff] rfl rfl (by kernel_rfl) (fun _ _ _ h=>h) (Or.inl ⟨by rfl,?_⟩) hHeld ?_ ?_
       rotate_left
       ·rintro w' ⟨s0,s1⟩
        go_simp
        with_reducible rfl
       rotate_left
       ·simp only [Act.put,sA,sZ,sS,i64_w,i32_w]
        rfl
       refine one_ (i:=1) (N:=some 56) #[tt,tt,ff,ff] rfl rfl (by kernel_rfl) (by decide) (fun K hK=>?_)
       refine goes_ Tryz.func34 (by kernel_rfl) rfl #[.int .u64 1,.bool true] (by rfl) rfl rfl zl ?_
       with_reducible refine(num_small.calls kj35 1 true t487 t490 _ A87.out).mono ?_
       rintro e w94 ⟨v488,rfl,ho0,hb⟩
       refine⟨_,rfl,?_⟩
       have HO489:=am (Kd.R_lower (Kd.R_new' (Kd.R_new' (Kd.R_new' (Kd.R_new' (Kd.R_newM (M:=fun k_=>(w.heap.size≤k_)) ho0 (below_size zb) (fun k_ h_=>h_)) (Kd.R_lt (zR HO_468000.out))) (Kd.R_lt (zR HO_469000.out))) (Kd.R_lt (zR HO_485000.out))) (Kd.R_lt (zR HO_486000.out))) (below_size zb))
       replace HO_468000:=re HO_468000 (Kd.R_base ho0) hb
       replace HO_469000:=re HO_469000 (Kd.R_base ho0) hb
       replace HO_485000:=re HO_485000 (Kd.R_base ho0) hb
       replace HO_486000:=re HO_486000 (Kd.R_base ho0) hb
       replace BK455:=kb BK455 hb
       replace BK456:=kb BK456 hb
       replace BK457:=kb BK457 hb
       replace BK458:=kb BK458 hb
       replace BK467:=kb BK467 hb
       replace BK468:=kb BK468 hb
       replace BK484:=kb BK484 hb
       replace BK485:=kb BK485 hb
       replace HB:=am (below_step zb hb)
       (try clear hb)
       (try clear hb2)
       (try clear hk)
       (try clear hi)
       (try clear ho0)
       obtain⟨Ao9004,co9004,eo9004⟩:=Kd.R_slice HO_485000.out
       (first | subst eo9004 |(injection eo9004 with f1_ f2_ f3_;have f4_:=f1_.symm;have f5_:=f3_.symm;clear f1_ f2_ f3_;subst f4_;subst f5_))
       obtain⟨Ao9006,co9006,eo9006⟩:=Kd.R_slice HO489.out
       (first | subst eo9006 |(injection eo9006 with f1_ f2_ f3_;have f4_:=f1_.symm;have f5_:=f3_.symm;clear f1_ f2_ f3_;subst f4_;subst f5_))
       refine hK.out _ _ ⟨(blk_cell BK484.out 0).trans rfl,(blk_cell BK484.out 1).trans rfl⟩ (fun hHeld=>?_)
       clear hK K
       refine norm_ (a':=?_) ?_ ?_
       rotate_left
       ·show Act.put _ (some 56) _ = _
        simp only [Act.put,sA,sZ,sS,i64_w,i32_w]
        rfl
       refine one_ (i:=2) (N:=some 57) #[tt,tt,tt,ff] rfl rfl (by kernel_rfl) (by decide) (fun K hK=>?_)
       refine goes_ Tryz.func38 (by kernel_rfl) rfl #[.agg #[.slice Ao9004 t476.length co9004,.bool t479],.agg #[.slice Ao9006 t487.length co9006,.bool t490]] (by rfl) rfl rfl zl ?_
       with_reducible refine(num_number_plus.calls kj35 (fun k_=>some k_ = (.slice Ao9004 t476.length co9004 : Value).ownBlock) _ _ t476 t479 (fun k_=>some k_ = (.slice Ao9006 t487.length co9006 : Value).ownBlock) _ _ t487 t490 t491 t494 _ ?side1 ?side2 A88.out).mono ?_
       (case side1=>exact Kd.R_V (Kd.R_tight rfl (Kd.R_types (Kd.R_types (Kd.R_types (Kd.R_types (Kd.R_types (Kd.R_types (Kd.R_types (Kd.R_types (HO_485000.out) BK455.out (by decide)) BK456.out (by decide)) BK457.out (by decide)) BK458.out (by decide)) BK467.out (by decide)) BK468.out (by decide)) BK484.out (by decide)) BK485.out (by decide))))
       (case side2=>exact Kd.R_V (Kd.R_tight rfl (Kd.R_types (Kd.R_types (Kd.R_types (Kd.R_types (Kd.R_types (Kd.R_types (Kd.R_types (Kd.R_types (HO489.out) BK455.out (by decide)) BK456.out (by decide)) BK457.out (by decide)) BK458.out (by decide)) BK467.out (by decide)) BK468.out (by decide)) BK484.out (by decide)) BK485.out (by decide))))
       rintro e w95 ⟨v492,rfl,ho0,hb⟩
       refine⟨_,rfl,?_⟩
       have HO493:=am (Kd.R_lower (Kd.R_new' (Kd.R_new' (Kd.R_new' (Kd.R_new' (Kd.R_new' (Kd.R_newM (M:=fun k_=>(w.heap.size≤k_)) (Kd.R_mono (ok':=fun k_=>True) ho0 (fun _ hk_=>trivial)) (below_size zb) (fun k_ h_=>h_)) (Kd.R_lt (zR HO_468000.out))) (Kd.R_lt (zR HO_469000.out))) (Kd.R_lt (zR HO_485000.out))) (Kd.R_lt (zR HO_486000.out))) (Kd.R_lt (zR HO489.out))) (below_size zb))
       replace HO_468000:=re HO_468000 (Kd.R_base ho0) hb
       replace HO_469000:=re HO_469000 (Kd.R_base ho0) hb
       replace HO_485000:=re HO_485000 (Kd.R_base ho0) hb
       replace HO_486000:=re HO_486000 (Kd.R_base ho0) hb
       replace HO489:=re HO489 (Kd.R_base ho0) hb
       replace BK455:=kb BK455 hb
       replace BK456:=kb BK456 hb
       replace BK457:=kb BK457 hb
       replace BK458:=kb BK458 hb
       replace BK467:=kb BK467 hb
       replace BK468:=kb BK468 hb
       replace BK484:=kb BK484 hb
       replace BK485:=kb BK485 hb
       replace HB:=am (below_step zb hb)
       (try clear hb)
       (try clear hb2)
       (try clear hk)
       (try clear hi)
       (try clear ho0)
       obtain⟨Ao9007,co9007,eo9007⟩:=Kd.R_slice HO493.out
       (first | subst eo9007 |(injection eo9007 with f1_ f2_ f3_;have f4_:=f1_.symm;have f5_:=f3_.symm;clear f1_ f2_ f3_;subst f4_;subst f5_))
       refine hK.out _ _ ⟨(blk_cell BK484.out 0).trans rfl,(blk_cell BK484.out 1).trans rfl⟩ (fun hHeld=>?_)
       clear hK K
       refine norm_ (a':=?_) ?_ ?_
       rotate_left
       ·show Act.put _ (some 57) _ = _
        simp only [Act.put,sA,sZ,sS,i64_w,i32_w]
        rfl
       refine last_ (i:=3) (N:=none) #[tt,tt,tt,tt] rfl rfl (by kernel_rfl) (by decide) (fun K hK=>?_)
       have hs96 : w95.cell? ⟨gb484,0,none⟩ = some (.slice Ao9004 t476.length co9004):=(blk_cell BK484.out 0).trans rfl
       have hfs96:=blk_frozen BK484.out 0
       have hns96_0:=NB455_484.out
       have hns96_1:=NB456_484.out
       have hns96_2:=NB457_484.out
       have hns96_3:=NB458_484.out
       have hns96_4:=NB467_484.out
       have hns96_5:=NB468_484.out
       have hns96_7:=NB485_484.out
       have hms96_0:=NB484_455.out
       have hms96_1:=NB484_456.out
       have hms96_2:=NB484_457.out
       have hms96_3:=NB484_458.out
       have hms96_4:=NB484_467.out
       have hms96_5:=NB484_468.out
       have hms96_7:=NB484_485.out
       have hs97 : w95.cell? ⟨gb484,1,none⟩ = some (.bool t479):=(blk_cell BK484.out 1).trans rfl
       have hfs97:=blk_frozen BK484.out 1
       have hns97_0:=NB455_484.out
       have hns97_1:=NB456_484.out
       have hns97_2:=NB457_484.out
       have hns97_3:=NB458_484.out
       have hns97_4:=NB467_484.out
       have hns97_5:=NB468_484.out
       have hns97_7:=NB485_484.out
       have hms97_0:=NB484_455.out
       have hms97_1:=NB484_456.out
       have hms97_2:=NB484_457.out
       have hms97_3:=NB484_458.out
       have hms97_4:=NB484_467.out
       have hms97_5:=NB484_468.out
       have hms97_7:=NB484_485.out
       refine skip_ (w1:=?_) (by rfl) rfl ?_ ?_
       rotate_left
       ·go_simp
        rfl
       refine hK.out _ _ ?_
       clear hK K
       refine done_ (by kernel_rfl) ?_
       try go_wp2
       have n0_ : Aside0 (Kd.R (Kd.int .u32) 60 ((w95.setCell ⟨gb484,0,none⟩ (.slice Ao9007 t491.length co9007)).setCell ⟨gb484,1,none⟩ (.bool t494)) w.heap.size (fun k_=>(w.heap.size≤k_)∧some k_≠(v464 : Value).ownBlock∧some k_≠(.slice Ao9004 t476.length co9004 : Value).ownBlock∧some k_≠(v481 : Value).ownBlock∧some k_≠(.slice Ao9006 t487.length co9006 : Value).ownBlock∧some k_≠(.slice Ao9007 t491.length co9007 : Value).ownBlock) v460 t459):=⟨by refine zR ?_;exact Kd.R_mono (Kd.R_far (p:=⟨gb484,1,none⟩) (Kd.R_far (p:=⟨gb484,0,none⟩) (Kd.R_types HO_468000.out BK484.out (by decide)) (fun _ hk=>hk.2) (.slice Ao9007 t491.length co9007)) (fun _ hk=>hk.2) (.bool t494)) (fun _ hk=>by first | exact⟨hk.1.1.1.1,⟨hk.1.1.1.2.1,⟨hk.1.1.1.2.2.1,⟨hk.1.1.1.2.2.2,⟨hk.1.1.2,hk.1.2⟩⟩⟩⟩⟩ | exact zD hk)⟩
       have n1_ : Aside0 (Kd.R (Kd.int .u32) 60 ((w95.setCell ⟨gb484,0,none⟩ (.slice Ao9007 t491.length co9007)).setCell ⟨gb484,1,none⟩ (.bool t494)) w.heap.size (fun k_=>(w.heap.size≤k_)∧some k_≠(v460 : Value).ownBlock∧some k_≠(.slice Ao9004 t476.length co9004 : Value).ownBlock∧some k_≠(v481 : Value).ownBlock∧some k_≠(.slice Ao9006 t487.length co9006 : Value).ownBlock∧some k_≠(.slice Ao9007 t491.length co9007 : Value).ownBlock) v464 t463):=⟨by refine zR ?_;exact Kd.R_mono (Kd.R_far (p:=⟨gb484,1,none⟩) (Kd.R_far (p:=⟨gb484,0,none⟩) (Kd.R_types HO_469000.out BK484.out (by decide)) (fun _ hk=>hk.2) (.slice Ao9007 t491.length co9007)) (fun _ hk=>hk.2) (.bool t494)) (fun _ hk=>by first | exact⟨hk.1.1.1.1,⟨hk.1.1.1.2.1,⟨hk.1.1.1.2.2.1,⟨hk.1.1.1.2.2.2,⟨hk.1.1.2,hk.1.2⟩⟩⟩⟩⟩ | exact zD hk)⟩
       have n2_ : Aside0 (Kd.R (Kd.int .u32) 60 ((w95.setCell ⟨gb484,0,none⟩ (.slice Ao9007 t491.length co9007)).setCell ⟨gb484,1,none⟩ (.bool t494)) w.heap.size (fun k_=>(w.heap.size≤k_)∧some k_≠(v460 : Value).ownBlock∧some k_≠(v464 : Value).ownBlock∧some k_≠(v481 : Value).ownBlock∧some k_≠(.slice Ao9006 t487.length co9006 : Value).ownBlock∧some k_≠(.slice Ao9007 t491.length co9007 : Value).ownBlock) (.slice Ao9004 t476.length co9004) t476):=⟨by refine zR ?_;exact Kd.R_mono (Kd.R_far (p:=⟨gb484,1,none⟩) (Kd.R_far (p:=⟨gb484,0,none⟩) (Kd.R_types HO_485000.out BK484.out (by decide)) (fun _ hk=>hk.2) (.slice Ao9007 t491.length co9007)) (fun _ hk=>hk.2) (.bool t494)) (fun _ hk=>by first | exact⟨hk.1.1.1.1,⟨hk.1.1.1.2.1,⟨hk.1.1.1.2.2.1,⟨hk.1.1.1.2.2.2,⟨hk.1.1.2,hk.1.2⟩⟩⟩⟩⟩ | exact zD hk)⟩
       have n3_ : Aside0 (Kd.R (Kd.int .u32) 60 ((w95.setCell ⟨gb484,0,none⟩ (.slice Ao9007 t491.length co9007)).setCell ⟨gb484,1,none⟩ (.bool t494)) w.heap.size (fun k_=>(w.heap.size≤k_)∧some k_≠(v460 : Value).ownBlock∧some k_≠(v464 : Value).ownBlock∧some k_≠(.slice Ao9004 t476.length co9004 : Value).ownBlock∧some k_≠(.slice Ao9006 t487.length co9006 : Value).ownBlock∧some k_≠(.slice Ao9007 t491.length co9007 : Value).ownBlock) v481 t480):=⟨by refine zR ?_;exact Kd.R_mono (Kd.R_far (p:=⟨gb484,1,none⟩) (Kd.R_far (p:=⟨gb484,0,none⟩) (Kd.R_types HO_486000.out BK484.out (by decide)) (fun _ hk=>hk.2) (.slice Ao9007 t491.length co9007)) (fun _ hk=>hk.2) (.bool t494)) (fun _ hk=>by first | exact⟨hk.1.1.1.1,⟨hk.1.1.1.2.1,⟨hk.1.1.1.2.2.1,⟨hk.1.1.1.2.2.2,⟨hk.1.1.2,hk.1.2⟩⟩⟩⟩⟩ | exact zD hk)⟩
       have n4_ : Aside0 (Kd.R (Kd.int .u32) 60 ((w95.setCell ⟨gb484,0,none⟩ (.slice Ao9007 t491.length co9007)).setCell ⟨gb484,1,none⟩ (.bool t494)) w.heap.size (fun k_=>(w.heap.size≤k_)∧some k_≠(v460 : Value).ownBlock∧some k_≠(v464 : Value).ownBlock∧some k_≠(.slice Ao9004 t476.length co9004 : Value).ownBlock∧some k_≠(v481 : Value).ownBlock∧some k_≠(.slice Ao9007 t491.length co9007 : Value).ownBlock) (.slice Ao9006 t487.length co9006) t487):=⟨by refine zR ?_;exact Kd.R_mono (Kd.R_far (p:=⟨gb484,1,none⟩) (Kd.R_far (p:=⟨gb484,0,none⟩) (Kd.R_types HO489.out BK484.out (by decide)) (fun _ hk=>hk.2) (.slice Ao9007 t491.length co9007)) (fun _ hk=>hk.2) (.bool t494)) (fun _ hk=>by first | exact⟨hk.1.1.1.1.1.1.1,⟨hk.1.1.1.1.1.2,⟨hk.1.1.1.1.2,⟨hk.1.1.1.2,⟨hk.1.1.2,hk.1.2⟩⟩⟩⟩⟩ | exact zD hk)⟩
       have n5_ : Aside0 (Kd.R (Kd.int .u32) 60 ((w95.setCell ⟨gb484,0,none⟩ (.slice Ao9007 t491.length co9007)).setCell ⟨gb484,1,none⟩ (.bool t494)) w.heap.size (fun k_=>(w.heap.size≤k_)∧some k_≠(v460 : Value).ownBlock∧some k_≠(v464 : Value).ownBlock∧some k_≠(.slice Ao9004 t476.length co9004 : Value).ownBlock∧some k_≠(v481 : Value).ownBlock∧some k_≠(.slice Ao9006 t487.length co9006 : Value).ownBlock) (.slice Ao9007 t491.length co9007) t491):=⟨by refine zR ?_;exact Kd.R_mono (Kd.R_far (p:=⟨gb484,1,none⟩) (Kd.R_far (p:=⟨gb484,0,none⟩) (Kd.R_types HO493.out BK484.out (by decide)) (fun _ hk=>hk.2) (.slice Ao9007 t491.length co9007)) (fun _ hk=>hk.2) (.bool t494)) (fun _ hk=>by first | exact⟨hk.1.1.1.1.1.1.1,⟨hk.1.1.1.1.1.2,⟨hk.1.1.1.1.2,⟨hk.1.1.1.2,⟨hk.1.1.2,hk.1.2⟩⟩⟩⟩⟩ | exact zD hk)⟩
       have n6_ : Aside0 (((w95.setCell ⟨gb484,0,none⟩ (.slice Ao9007 t491.length co9007)).setCell ⟨gb484,1,none⟩ (.bool t494)).heap[gb455]? = some (.cells #[.bool a0_0,.slice A0_1 l0_1.length c0_1] 25 (0,0))):=⟨by refine zk ?_;refine blk_far ?_ NB455_484.out _;refine zk ?_;refine blk_far ?_ NB455_484.out _;refine zk ?_;exact BK455.out⟩
       have n7_ : Aside0 (((w95.setCell ⟨gb484,0,none⟩ (.slice Ao9007 t491.length co9007)).setCell ⟨gb484,1,none⟩ (.bool t494)).heap[gb456]? = some (.cells #[.bool a1_0,.slice A1_1 l1_1.length c1_1] 25 (0,0))):=⟨by refine zk ?_;refine blk_far ?_ NB456_484.out _;refine zk ?_;refine blk_far ?_ NB456_484.out _;refine zk ?_;exact BK456.out⟩
       have n8_ : Aside0 (((w95.setCell ⟨gb484,0,none⟩ (.slice Ao9007 t491.length co9007)).setCell ⟨gb484,1,none⟩ (.bool t494)).heap[gb457]? = some (.cells #[.bool false,.slice none 0 0] 25 (0,0))):=⟨by refine zk ?_;refine blk_far ?_ NB457_484.out _;refine zk ?_;refine blk_far ?_ NB457_484.out _;refine zk ?_;exact BK457.out⟩
       have n9_ : Aside0 (((w95.setCell ⟨gb484,0,none⟩ (.slice Ao9007 t491.length co9007)).setCell ⟨gb484,1,none⟩ (.bool t494)).heap[gb458]? = some (.cells #[.bool false,.slice none 0 0] 25 (0,0))):=⟨by refine zk ?_;refine blk_far ?_ NB458_484.out _;refine zk ?_;refine blk_far ?_ NB458_484.out _;refine zk ?_;exact BK458.out⟩
       have n10_ : Aside0 (((w95.setCell ⟨gb484,0,none⟩ (.slice Ao9007 t491.length co9007)).setCell ⟨gb484,1,none⟩ (.bool t494)).heap[gb467]? = some (.cells #[v460,.bool t462] 54 (0,0))):=⟨by refine zk ?_;refine blk_far ?_ NB467_484.out _;refine zk ?_;refine blk_far ?_ NB467_484.out _;refine zk ?_;exact BK467.out⟩
       have n11_ : Aside0 (((w95.setCell ⟨gb484,0,none⟩ (.slice Ao9007 t491.length co9007)).setCell ⟨gb484,1,none⟩ (.bool t494)).heap[gb468]? = some (.cells #[v464,.bool t466] 54 (0,0))):=⟨by refine zk ?_;refine blk_far ?_ NB468_484.out _;refine zk ?_;refine blk_far ?_ NB468_484.out _;refine zk ?_;exact BK468.out⟩
       have n12_ : Aside0 (((w95.setCell ⟨gb484,0,none⟩ (.slice Ao9007 t491.length co9007)).setCell ⟨gb484,1,none⟩ (.bool t494)).heap[gb484]? = some (.cells #[.slice Ao9007 t491.length co9007,.bool t494] 54 (0,0))):=⟨by refine zk ?_;refine blk_put (cs:=#[.slice Ao9007 t491.length co9007,.bool t479]) ?_ 1 _ rfl;refine zk ?_;refine blk_put (cs:=#[.slice Ao9004 t476.length co9004,.bool t479]) ?_ 0 _ rfl;refine zk ?_;exact BK484.out⟩
       have n13_ : Aside0 (((w95.setCell ⟨gb484,0,none⟩ (.slice Ao9007 t491.length co9007)).setCell ⟨gb484,1,none⟩ (.bool t494)).heap[gb485]? = some (.cells #[v481,.bool t483] 54 (0,0))):=⟨by refine zk ?_;refine blk_far ?_ NB485_484.out _;refine zk ?_;refine blk_far ?_ NB485_484.out _;refine zk ?_;exact BK485.out⟩
       have n14_ : Aside0 (Below w.heap.size w ((w95.setCell ⟨gb484,0,none⟩ (.slice Ao9007 t491.length co9007)).setCell ⟨gb484,1,none⟩ (.bool t494))):=⟨zb⟩
       (try clear HO_468000)
       (try clear HO_469000)
       (try clear HO_485000)
       (try clear HO_486000)
       (try clear HO489)
       (try clear HO493)
       (try clear BK455)
       (try clear BK456)
       (try clear BK457)
       (try clear BK458)
       (try clear BK467)
       (try clear BK468)
       (try clear BK484)
       (try clear BK485)
       (try clear HB)
       generalize ((w95.setCell ⟨gb484,0,none⟩ (.slice Ao9007 t491.length co9007)).setCell ⟨gb484,1,none⟩ (.bool t494)) = w98 at n0_ n1_ n2_ n3_ n4_ n5_ n6_ n7_ n8_ n9_ n10_ n11_ n12_ n13_ n14_ ⊢
       have HO_468000:=n0_
       have HO_469000:=n1_
       have HO_485000:=n2_
       have HO_486000:=n3_
       have HO489:=n4_
       have HO493:=n5_
       have BK455:=n6_
       have BK456:=n7_
       have BK457:=n8_
       have BK458:=n9_
       have BK467:=n10_
       have BK468:=n11_
       have BK484:=n12_
       have BK485:=n13_
       have HB:=n14_
       clear n0_ n1_ n2_ n3_ n4_ n5_ n6_ n7_ n8_ n9_ n10_ n11_ n12_ n13_ n14_
       replace HO_468000:=am (Kd.R_drew HO_468000.out)
       replace HO_469000:=am (Kd.R_drew HO_469000.out)
       replace HO_485000:=am (Kd.R_drew HO_485000.out)
       replace HO_486000:=am (Kd.R_drew HO_486000.out)
       replace HO489:=am (Kd.R_drew HO489.out)
       replace HO493:=am (Kd.R_drew HO493.out)
       replace BK455:=am (blk_drew BK455.out)
       replace BK456:=am (blk_drew BK456.out)
       replace BK457:=am (blk_drew BK457.out)
       replace BK458:=am (blk_drew BK458.out)
       replace BK467:=am (blk_drew BK467.out)
       replace BK468:=am (blk_drew BK468.out)
       replace BK484:=am (blk_drew BK484.out)
       replace BK485:=am (blk_drew BK485.out)
       replace HB:=am (below_drew1 HB.out)
       obtain⟨Ao9005,co9005,eo9005⟩:=Kd.R_slice HO_486000.out
       (first | subst eo9005 |(injection eo9005 with f1_ f2_ f3_;have f4_:=f1_.symm;have f5_:=f3_.symm;clear f1_ f2_ f3_;subst f4_;subst f5_))
       refine start_ (n:=5) (S:=fun w'=>w'.cell? ⟨gb468,0,none⟩ = some (v464)∧w'.cell? ⟨gb468,1,none⟩ = some (.bool t466)∧w'.cell? ⟨gb485,0,none⟩ = some (.slice Ao9005 t480.length co9005)∧w'.cell? ⟨gb485,1,none⟩ = some (.bool t483)) (ds:=[4]) #[ff,ff,ff,ff,ff] (by kernel_rfl) rfl rfl ⟨(blk_cell BK468.out 0).trans rfl,(blk_cell BK468.out 1).trans rfl,(blk_cell BK485.out 0).trans rfl,(blk_cell BK485.out 1).trans rfl⟩ (fun hHeld=>?_)
       generalize w98.drew = w99 at HO_468000 HO_469000 HO_485000 HO_486000 HO489 HO493 BK455 BK456 BK457 BK458 BK467 BK468 BK484 BK485 HB hHeld ⊢
       refine take_ (i:=0) (N:=some 58) (v:=?_) (a':=?_) #[tt,ff,ff,ff,ff] rfl rfl (by kernel_rfl) (fun _ _ _ h=>h) (Or.inl ⟨by rfl,?_⟩) hHeld ?_ ?_
       rotate_left
       ·rintro w' ⟨s0,s1,s2,s3⟩
        go_simp
        with_reducible rfl
       rotate_left
       ·simp only [Act.put,sA,sZ,sS,i64_w,i32_w]
        rfl
       refine take_ (i:=1) (N:=some 59) (v:=?_) (a':=?_) #[tt,tt,ff,ff,ff] rfl rfl (by kernel_rfl) (fun _ _ _ h=>h) (Or.inl ⟨by rfl,?_⟩) hHeld ?_ ?_
       rotate_left
       ·rintro w' ⟨s0,s1,s2,s3⟩
        go_simp
        with_reducible rfl
       rotate_left
       ·simp only [Act.put,sA,sZ,sS,i64_w,i32_w]
        rfl
       refine one_ (i:=2) (N:=some 60) #[tt,tt,tt,ff,ff] rfl rfl (by kernel_rfl) (by decide) (fun K hK=>?_)
       refine goes_ Tryz.func50 (by kernel_rfl) rfl #[.agg #[.slice Ao9005 t480.length co9005,.bool t483]] (by rfl) rfl rfl zl ?_
       with_reducible refine(num_number_turned.calls (fun k_=>some k_ = (.slice Ao9005 t480.length co9005 : Value).ownBlock) _ _ t480 t483 t495 t498 _ ?side1 A89.out).mono ?_
       (case side1=>exact Kd.R_V (Kd.R_tight rfl (Kd.R_types (Kd.R_types (Kd.R_types (Kd.R_types (Kd.R_types (Kd.R_types (Kd.R_types (Kd.R_types (HO_486000.out) BK455.out (by decide)) BK456.out (by decide)) BK457.out (by decide)) BK458.out (by decide)) BK467.out (by decide)) BK468.out (by decide)) BK484.out (by decide)) BK485.out (by decide))))
       rintro e w100 ⟨v496,rfl,ho0,hb⟩
       refine⟨_,rfl,?_⟩
       have HO497:=am (Kd.V_lower (Kd.V_mono (ok':=fun k_=>(w.heap.size≤k_)∧some k_≠(v460 : Value).ownBlock∧some k_≠(v464 : Value).ownBlock∧some k_≠(.slice Ao9004 t476.length co9004 : Value).ownBlock∧some k_≠(.slice Ao9006 t487.length co9006 : Value).ownBlock∧some k_≠(.slice Ao9007 t491.length co9007 : Value).ownBlock∧k_≠gb455∧k_≠gb456∧k_≠gb457∧k_≠gb458∧k_≠gb467∧k_≠gb468∧k_≠gb484∧k_≠gb485) ho0 (fun k_ hk_=>⟨Or.elim hk_ (fun hs_=>((Kd.R_types (Kd.R_types (Kd.R_types (Kd.R_types (Kd.R_types (Kd.R_types (Kd.R_types (Kd.R_types (HO_486000.out) BK455.out (by decide)) BK456.out (by decide)) BK457.out (by decide)) BK458.out (by decide)) BK467.out (by decide)) BK468.out (by decide)) BK484.out (by decide)) BK485.out (by decide)).1 k_ hs_.symm).1.1.1.1.1.1.1.1.1) (fun hn_=>(Nat.le_trans (below_size zb) hn_)),Or.elim hk_ (fun hs_=>((Kd.R_types (Kd.R_types (Kd.R_types (Kd.R_types (Kd.R_types (Kd.R_types (Kd.R_types (Kd.R_types (HO_486000.out) BK455.out (by decide)) BK456.out (by decide)) BK457.out (by decide)) BK458.out (by decide)) BK467.out (by decide)) BK468.out (by decide)) BK484.out (by decide)) BK485.out (by decide)).1 k_ hs_.symm).1.1.1.1.1.1.1.1.2.1) (fun hn_=>(Kd.fresh' (Kd.R_lt (zR HO_468000.out)) k_ hn_)),Or.elim hk_ (fun hs_=>((Kd.R_types (Kd.R_types (Kd.R_types (Kd.R_types (Kd.R_types (Kd.R_types (Kd.R_types (Kd.R_types (HO_486000.out) BK455.out (by decide)) BK456.out (by decide)) BK457.out (by decide)) BK458.out (by decide)) BK467.out (by decide)) BK468.out (by decide)) BK484.out (by decide)) BK485.out (by decide)).1 k_ hs_.symm).1.1.1.1.1.1.1.1.2.2.1) (fun hn_=>(Kd.fresh' (Kd.R_lt (zR HO_469000.out)) k_ hn_)),Or.elim hk_ (fun hs_=>((Kd.R_types (Kd.R_types (Kd.R_types (Kd.R_types (Kd.R_types (Kd.R_types (Kd.R_types (Kd.R_types (HO_486000.out) BK455.out (by decide)) BK456.out (by decide)) BK457.out (by decide)) BK458.out (by decide)) BK467.out (by decide)) BK468.out (by decide)) BK484.out (by decide)) BK485.out (by decide)).1 k_ hs_.symm).1.1.1.1.1.1.1.1.2.2.2.1) (fun hn_=>(Kd.fresh' (Kd.R_lt (zR HO_485000.out)) k_ hn_)),Or.elim hk_ (fun hs_=>((Kd.R_types (Kd.R_types (Kd.R_types (Kd.R_types (Kd.R_types (Kd.R_types (Kd.R_types (Kd.R_types (HO_486000.out) BK455.out (by decide)) BK456.out (by decide)) BK457.out (by decide)) BK458.out (by decide)) BK467.out (by decide)) BK468.out (by decide)) BK484.out (by decide)) BK485.out (by decide)).1 k_ hs_.symm).1.1.1.1.1.1.1.1.2.2.2.2.1) (fun hn_=>(Kd.fresh' (Kd.R_lt (zR HO489.out)) k_ hn_)),Or.elim hk_ (fun hs_=>((Kd.R_types (Kd.R_types (Kd.R_types (Kd.R_types (Kd.R_types (Kd.R_types (Kd.R_types (Kd.R_types (HO_486000.out) BK455.out (by decide)) BK456.out (by decide)) BK457.out (by decide)) BK458.out (by decide)) BK467.out (by decide)) BK468.out (by decide)) BK484.out (by decide)) BK485.out (by decide)).1 k_ hs_.symm).1.1.1.1.1.1.1.1.2.2.2.2.2) (fun hn_=>(Kd.fresh' (Kd.R_lt (zR HO493.out)) k_ hn_)),Or.elim hk_ (fun hs_=>((Kd.R_types (Kd.R_types (Kd.R_types (Kd.R_types (Kd.R_types (Kd.R_types (Kd.R_types (Kd.R_types (HO_486000.out) BK455.out (by decide)) BK456.out (by decide)) BK457.out (by decide)) BK458.out (by decide)) BK467.out (by decide)) BK468.out (by decide)) BK484.out (by decide)) BK485.out (by decide)).1 k_ hs_.symm).1.1.1.1.1.1.1.2) (fun hn_=>(fb BK455 k_ hn_)),Or.elim hk_ (fun hs_=>((Kd.R_types (Kd.R_types (Kd.R_types (Kd.R_types (Kd.R_types (Kd.R_types (Kd.R_types (Kd.R_types (HO_486000.out) BK455.out (by decide)) BK456.out (by decide)) BK457.out (by decide)) BK458.out (by decide)) BK467.out (by decide)) BK468.out (by decide)) BK484.out (by decide)) BK485.out (by decide)).1 k_ hs_.symm).1.1.1.1.1.1.2) (fun hn_=>(fb BK456 k_ hn_)),Or.elim hk_ (fun hs_=>((Kd.R_types (Kd.R_types (Kd.R_types (Kd.R_types (Kd.R_types (Kd.R_types (Kd.R_types (Kd.R_types (HO_486000.out) BK455.out (by decide)) BK456.out (by decide)) BK457.out (by decide)) BK458.out (by decide)) BK467.out (by decide)) BK468.out (by decide)) BK484.out (by decide)) BK485.out (by decide)).1 k_ hs_.symm).1.1.1.1.1.2) (fun hn_=>(fb BK457 k_ hn_)),Or.elim hk_ (fun hs_=>((Kd.R_types (Kd.R_types (Kd.R_types (Kd.R_types (Kd.R_types (Kd.R_types (Kd.R_types (Kd.R_types (HO_486000.out) BK455.out (by decide)) BK456.out (by decide)) BK457.out (by decide)) BK458.out (by decide)) BK467.out (by decide)) BK468.out (by decide)) BK484.out (by decide)) BK485.out (by decide)).1 k_ hs_.symm).1.1.1.1.2) (fun hn_=>(fb BK458 k_ hn_)),Or.elim hk_ (fun hs_=>((Kd.R_types (Kd.R_types (Kd.R_types (Kd.R_types (Kd.R_types (Kd.R_types (Kd.R_types (Kd.R_types (HO_486000.out) BK455.out (by decide)) BK456.out (by decide)) BK457.out (by decide)) BK458.out (by decide)) BK467.out (by decide)) BK468.out (by decide)) BK484.out (by decide)) BK485.out (by decide)).1 k_ hs_.symm).1.1.1.2) (fun hn_=>(fb BK467 k_ hn_)),Or.elim hk_ (fun hs_=>((Kd.R_types (Kd.R_types (Kd.R_types (Kd.R_types (Kd.R_types (Kd.R_types (Kd.R_types (Kd.R_types (HO_486000.out) BK455.out (by decide)) BK456.out (by decide)) BK457.out (by decide)) BK458.out (by decide)) BK467.out (by decide)) BK468.out (by decide)) BK484.out (by decide)) BK485.out (by decide)).1 k_ hs_.symm).1.1.2) (fun hn_=>(fb BK468 k_ hn_)),Or.elim hk_ (fun hs_=>((Kd.R_types (Kd.R_types (Kd.R_types (Kd.R_types (Kd.R_types (Kd.R_types (Kd.R_types (Kd.R_types (HO_486000.out) BK455.out (by decide)) BK456.out (by decide)) BK457.out (by decide)) BK458.out (by decide)) BK467.out (by decide)) BK468.out (by decide)) BK484.out (by decide)) BK485.out (by decide)).1 k_ hs_.symm).1.2) (fun hn_=>(fb BK484 k_ hn_)),Or.elim hk_ (fun hs_=>((Kd.R_types (Kd.R_types (Kd.R_types (Kd.R_types (Kd.R_types (Kd.R_types (Kd.R_types (Kd.R_types (HO_486000.out) BK455.out (by decide)) BK456.out (by decide)) BK457.out (by decide)) BK458.out (by decide)) BK467.out (by decide)) BK468.out (by decide)) BK484.out (by decide)) BK485.out (by decide)).1 k_ hs_.symm).2) (fun hn_=>(fb BK485 k_ hn_))⟩)) (below_size zb))
       replace HO_468000:=rb HO_468000 hb
       replace HO_469000:=rb HO_469000 hb
       replace HO_485000:=rb HO_485000 hb
       replace HO_486000:=rb HO_486000 hb
       replace HO489:=rb HO489 hb
       replace HO493:=rb HO493 hb
       replace BK455:=kb BK455 hb
       replace BK456:=kb BK456 hb
       replace BK457:=kb BK457 hb
       replace BK458:=kb BK458 hb
       replace BK467:=kb BK467 hb
       replace BK468:=kb BK468 hb
       replace BK484:=kb BK484 hb
       replace BK485:=kb BK485 hb
       replace HB:=am (below_step zb hb)
       (try clear hb)
       (try clear hb2)
       (try clear hk)
       (try clear hi)
       (try clear ho0)
       obtain⟨Ao9001,co9001,eo9001⟩:=Kd.R_slice HO_469000.out
       (first | subst eo9001 |(injection eo9001 with f1_ f2_ f3_;have f4_:=f1_.symm;have f5_:=f3_.symm;clear f1_ f2_ f3_;subst f4_;subst f5_))
       obtain⟨Ao9008,co9008,eo9008⟩:=Kd.V_slice HO497.out
       (first | subst eo9008 |(injection eo9008 with f1_ f2_ f3_;have f4_:=f1_.symm;have f5_:=f3_.symm;clear f1_ f2_ f3_;subst f4_;subst f5_))
       refine hK.out _ _ ⟨(blk_cell BK468.out 0).trans rfl,(blk_cell BK468.out 1).trans rfl,(blk_cell BK485.out 0).trans rfl,(blk_cell BK485.out 1).trans rfl⟩ (fun hHeld=>?_)
       clear hK K
       refine norm_ (a':=?_) ?_ ?_
       rotate_left
       ·show Act.put _ (some 60) _ = _
        simp only [Act.put,sA,sZ,sS,i64_w,i32_w]
        rfl
       refine one_ (i:=3) (N:=some 61) #[tt,tt,tt,tt,ff] rfl rfl (by kernel_rfl) (by decide) (fun K hK=>?_)
       refine goes_ Tryz.func38 (by kernel_rfl) rfl #[.agg #[.slice Ao9001 t463.length co9001,.bool t466],.agg #[.slice Ao9008 t495.length co9008,.bool t498]] (by rfl) rfl rfl zl ?_
       with_reducible refine(num_number_plus.calls kj35 (fun k_=>some k_ = (.slice Ao9001 t463.length co9001 : Value).ownBlock) _ _ t463 t466 (fun k_=>((w.heap.size≤k_)∧(some k_≠(v460 : Value).ownBlock∧(some k_≠(.slice Ao9001 t463.length co9001 : Value).ownBlock∧(some k_≠(.slice Ao9004 t476.length co9004 : Value).ownBlock∧(some k_≠(.slice Ao9006 t487.length co9006 : Value).ownBlock∧(some k_≠(.slice Ao9007 t491.length co9007 : Value).ownBlock∧(k_≠gb455∧(k_≠gb456∧(k_≠gb457∧(k_≠gb458∧(k_≠gb467∧(k_≠gb468∧(k_≠gb484∧k_≠gb485)))))))))))))) _ _ t495 t498 t499 t502 _ ?side1 ?side2 A90.out).mono ?_
       (case side1=>exact Kd.R_V (Kd.R_tight rfl (Kd.R_types (Kd.R_types (Kd.R_types (Kd.R_types (Kd.R_types (Kd.R_types (Kd.R_types (Kd.R_types (HO_469000.out) BK455.out (by decide)) BK456.out (by decide)) BK457.out (by decide)) BK458.out (by decide)) BK467.out (by decide)) BK468.out (by decide)) BK484.out (by decide)) BK485.out (by decide))))
       (case side2=>exact HO497.out)
       rintro e w101 ⟨v500,rfl,ho0,hb⟩
       refine⟨_,rfl,?_⟩
       replace HO497:=ve HO497 (Kd.R_base ho0) hb
       have HO501:=am (Kd.R_lower (Kd.R_new' (Kd.R_new' (Kd.R_new' (Kd.R_new' (Kd.R_new' (Kd.R_new' (Kd.R_newM (M:=fun k_=>(w.heap.size≤k_)) (Kd.R_mono (ok':=fun k_=>True) ho0 (fun _ hk_=>trivial)) (below_size zb) (fun k_ h_=>h_)) (Kd.R_lt (zR HO_468000.out))) (Kd.R_lt (zR HO_469000.out))) (Kd.R_lt (zR HO_485000.out))) (Kd.R_lt (zR HO_486000.out))) (Kd.R_lt (zR HO489.out))) (Kd.R_lt (zR HO493.out))) (below_size zb))
       replace HO_468000:=re HO_468000 (Kd.R_base ho0) hb
       replace HO_469000:=re HO_469000 (Kd.R_base ho0) hb
       replace HO_485000:=re HO_485000 (Kd.R_base ho0) hb
       replace HO_486000:=re HO_486000 (Kd.R_base ho0) hb
       replace HO489:=re HO489 (Kd.R_base ho0) hb
       replace HO493:=re HO493 (Kd.R_base ho0) hb
       replace BK455:=kb BK455 hb
       replace BK456:=kb BK456 hb
       replace BK457:=kb BK457 hb
       replace BK458:=kb BK458 hb
       replace BK467:=kb BK467 hb
       replace BK468:=kb BK468 hb
       replace BK484:=kb BK484 hb
       replace BK485:=kb BK485 hb
       replace HB:=am (below_step zb hb)
       (try clear hb)
       (try clear hb2)
       (try clear hk)
       (try clear hi)
       (try clear ho0)
       obtain⟨Ao9009,co9009,eo9009⟩:=Kd.R_slice HO501.out
       (first | subst eo9009 |(injection eo9009 with f1_ f2_ f3_;have f4_:=f1_.symm;have f5_:=f3_.symm;clear f1_ f2_ f3_;subst f4_;subst f5_))
       refine hK.out _ _ ⟨(blk_cell BK468.out 0).trans rfl,(blk_cell BK468.out 1).trans rfl,(blk_cell BK485.out 0).trans rfl,(blk_cell BK485.out 1).trans rfl⟩ (fun hHeld=>?_)
       clear hK K
       refine norm_ (a':=?_) ?_ ?_
       rotate_left
       ·show Act.put _ (some 61) _ = _
        simp only [Act.put,sA,sZ,sS,i64_w,i32_w]
        rfl
       refine last_ (i:=4) (N:=none) #[tt,tt,tt,tt,tt] rfl rfl (by kernel_rfl) (by decide) (fun K hK=>?_)
       have hs102 : w101.cell? ⟨gb485,0,none⟩ = some (.slice Ao9005 t480.length co9005):=(blk_cell BK485.out 0).trans rfl
       have hfs102:=blk_frozen BK485.out 0
       have hns102_0:=NB455_485.out
       have hns102_1:=NB456_485.out
       have hns102_2:=NB457_485.out
       have hns102_3:=NB458_485.out
       have hns102_4:=NB467_485.out
       have hns102_5:=NB468_485.out
       have hns102_6:=NB484_485.out
       have hms102_0:=NB485_455.out
       have hms102_1:=NB485_456.out
       have hms102_2:=NB485_457.out
       have hms102_3:=NB485_458.out
       have hms102_4:=NB485_467.out
       have hms102_5:=NB485_468.out
       have hms102_6:=NB485_484.out
       have hs103 : w101.cell? ⟨gb485,1,none⟩ = some (.bool t483):=(blk_cell BK485.out 1).trans rfl
       have hfs103:=blk_frozen BK485.out 1
       have hns103_0:=NB455_485.out
       have hns103_1:=NB456_485.out
       have hns103_2:=NB457_485.out
       have hns103_3:=NB458_485.out
       have hns103_4:=NB467_485.out
       have hns103_5:=NB468_485.out
       have hns103_6:=NB484_485.out
       have hms103_0:=NB485_455.out
       have hms103_1:=NB485_456.out
       have hms103_2:=NB485_457.out
       have hms103_3:=NB485_458.out
       have hms103_4:=NB485_467.out
       have hms103_5:=NB485_468.out
       have hms103_6:=NB485_484.out
       refine skip_ (w1:=?_) (by rfl) rfl ?_ ?_
       rotate_left
       ·go_simp
        rfl
       refine hK.out _ _ ?_
       clear hK K
       refine done_ (by kernel_rfl) ?_
       try go_wp2
       have n0_ : Aside0 (Kd.R (Kd.int .u32) 60 ((w101.setCell ⟨gb485,0,none⟩ (.slice Ao9009 t499.length co9009)).setCell ⟨gb485,1,none⟩ (.bool t502)) w.heap.size (fun k_=>(w.heap.size≤k_)∧some k_≠(.slice Ao9001 t463.length co9001 : Value).ownBlock∧some k_≠(.slice Ao9004 t476.length co9004 : Value).ownBlock∧some k_≠(.slice Ao9005 t480.length co9005 : Value).ownBlock∧some k_≠(.slice Ao9006 t487.length co9006 : Value).ownBlock∧some k_≠(.slice Ao9007 t491.length co9007 : Value).ownBlock∧some k_≠(.slice Ao9009 t499.length co9009 : Value).ownBlock) v460 t459):=⟨by refine zR ?_;exact Kd.R_mono (Kd.R_far (p:=⟨gb485,1,none⟩) (Kd.R_far (p:=⟨gb485,0,none⟩) (Kd.R_types HO_468000.out BK485.out (by decide)) (fun _ hk=>hk.2) (.slice Ao9009 t499.length co9009)) (fun _ hk=>hk.2) (.bool t502)) (fun _ hk=>by first | exact⟨hk.1.1.1,⟨hk.1.1.2.1,⟨hk.1.1.2.2.1,⟨hk.1.1.2.2.2.1,⟨hk.1.1.2.2.2.2.1,⟨hk.1.1.2.2.2.2.2,hk.1.2⟩⟩⟩⟩⟩⟩ | exact zD hk)⟩
       have n1_ : Aside0 (Kd.R (Kd.int .u32) 60 ((w101.setCell ⟨gb485,0,none⟩ (.slice Ao9009 t499.length co9009)).setCell ⟨gb485,1,none⟩ (.bool t502)) w.heap.size (fun k_=>(w.heap.size≤k_)∧some k_≠(v460 : Value).ownBlock∧some k_≠(.slice Ao9004 t476.length co9004 : Value).ownBlock∧some k_≠(.slice Ao9005 t480.length co9005 : Value).ownBlock∧some k_≠(.slice Ao9006 t487.length co9006 : Value).ownBlock∧some k_≠(.slice Ao9007 t491.length co9007 : Value).ownBlock∧some k_≠(.slice Ao9009 t499.length co9009 : Value).ownBlock) (.slice Ao9001 t463.length co9001) t463):=⟨by refine zR ?_;exact Kd.R_mono (Kd.R_far (p:=⟨gb485,1,none⟩) (Kd.R_far (p:=⟨gb485,0,none⟩) (Kd.R_types HO_469000.out BK485.out (by decide)) (fun _ hk=>hk.2) (.slice Ao9009 t499.length co9009)) (fun _ hk=>hk.2) (.bool t502)) (fun _ hk=>by first | exact⟨hk.1.1.1,⟨hk.1.1.2.1,⟨hk.1.1.2.2.1,⟨hk.1.1.2.2.2.1,⟨hk.1.1.2.2.2.2.1,⟨hk.1.1.2.2.2.2.2,hk.1.2⟩⟩⟩⟩⟩⟩ | exact zD hk)⟩
       have n2_ : Aside0 (Kd.R (Kd.int .u32) 60 ((w101.setCell ⟨gb485,0,none⟩ (.slice Ao9009 t499.length co9009)).setCell ⟨gb485,1,none⟩ (.bool t502)) w.heap.size (fun k_=>(w.heap.size≤k_)∧some k_≠(v460 : Value).ownBlock∧some k_≠(.slice Ao9001 t463.length co9001 : Value).ownBlock∧some k_≠(.slice Ao9005 t480.length co9005 : Value).ownBlock∧some k_≠(.slice Ao9006 t487.length co9006 : Value).ownBlock∧some k_≠(.slice Ao9007 t491.length co9007 : Value).ownBlock∧some k_≠(.slice Ao9009 t499.length co9009 : Value).ownBlock) (.slice Ao9004 t476.length co9004) t476):=⟨by refine zR ?_;exact Kd.R_mono (Kd.R_far (p:=⟨gb485,1,none⟩) (Kd.R_far (p:=⟨gb485,0,none⟩) (Kd.R_types HO_485000.out BK485.out (by decide)) (fun _ hk=>hk.2) (.slice Ao9009 t499.length co9009)) (fun _ hk=>hk.2) (.bool t502)) (fun _ hk=>by first | exact⟨hk.1.1.1,⟨hk.1.1.2.1,⟨hk.1.1.2.2.1,⟨hk.1.1.2.2.2.1,⟨hk.1.1.2.2.2.2.1,⟨hk.1.1.2.2.2.2.2,hk.1.2⟩⟩⟩⟩⟩⟩ | exact zD hk)⟩
       have n3_ : Aside0 (Kd.R (Kd.int .u32) 60 ((w101.setCell ⟨gb485,0,none⟩ (.slice Ao9009 t499.length co9009)).setCell ⟨gb485,1,none⟩ (.bool t502)) w.heap.size (fun k_=>(w.heap.size≤k_)∧some k_≠(v460 : Value).ownBlock∧some k_≠(.slice Ao9001 t463.length co9001 : Value).ownBlock∧some k_≠(.slice Ao9004 t476.length co9004 : Value).ownBlock∧some k_≠(.slice Ao9006 t487.length co9006 : Value).ownBlock∧some k_≠(.slice Ao9007 t491.length co9007 : Value).ownBlock∧some k_≠(.slice Ao9009 t499.length co9009 : Value).ownBlock) (.slice Ao9005 t480.length co9005) t480):=⟨by refine zR ?_;exact Kd.R_mono (Kd.R_far (p:=⟨gb485,1,none⟩) (Kd.R_far (p:=⟨gb485,0,none⟩) (Kd.R_types HO_486000.out BK485.out (by decide)) (fun _ hk=>hk.2) (.slice Ao9009 t499.length co9009)) (fun _ hk=>hk.2) (.bool t502)) (fun _ hk=>by first | exact⟨hk.1.1.1,⟨hk.1.1.2.1,⟨hk.1.1.2.2.1,⟨hk.1.1.2.2.2.1,⟨hk.1.1.2.2.2.2.1,⟨hk.1.1.2.2.2.2.2,hk.1.2⟩⟩⟩⟩⟩⟩ | exact zD hk)⟩
       have n4_ : Aside0 (Kd.R (Kd.int .u32) 60 ((w101.setCell ⟨gb485,0,none⟩ (.slice Ao9009 t499.length co9009)).setCell ⟨gb485,1,none⟩ (.bool t502)) w.heap.size (fun k_=>(w.heap.size≤k_)∧some k_≠(v460 : Value).ownBlock∧some k_≠(.slice Ao9001 t463.length co9001 : Value).ownBlock∧some k_≠(.slice Ao9004 t476.length co9004 : Value).ownBlock∧some k_≠(.slice Ao9005 t480.length co9005 : Value).ownBlock∧some k_≠(.slice Ao9007 t491.length co9007 : Value).ownBlock∧some k_≠(.slice Ao9009 t499.length co9009 : Value).ownBlock) (.slice Ao9006 t487.length co9006) t487):=⟨by refine zR ?_;exact Kd.R_mono (Kd.R_far (p:=⟨gb485,1,none⟩) (Kd.R_far (p:=⟨gb485,0,none⟩) (Kd.R_types HO489.out BK485.out (by decide)) (fun _ hk=>hk.2) (.slice Ao9009 t499.length co9009)) (fun _ hk=>hk.2) (.bool t502)) (fun _ hk=>by first | exact⟨hk.1.1.1,⟨hk.1.1.2.1,⟨hk.1.1.2.2.1,⟨hk.1.1.2.2.2.1,⟨hk.1.1.2.2.2.2.1,⟨hk.1.1.2.2.2.2.2,hk.1.2⟩⟩⟩⟩⟩⟩ | exact zD hk)⟩
       have n5_ : Aside0 (Kd.R (Kd.int .u32) 60 ((w101.setCell ⟨gb485,0,none⟩ (.slice Ao9009 t499.length co9009)).setCell ⟨gb485,1,none⟩ (.bool t502)) w.heap.size (fun k_=>(w.heap.size≤k_)∧some k_≠(v460 : Value).ownBlock∧some k_≠(.slice Ao9001 t463.length co9001 : Value).ownBlock∧some k_≠(.slice Ao9004 t476.length co9004 : Value).ownBlock∧some k_≠(.slice Ao9005 t480.length co9005 : Value).ownBlock∧some k_≠(.slice Ao9006 t487.length co9006 : Value).ownBlock∧some k_≠(.slice Ao9009 t499.length co9009 : Value).ownBlock) (.slice Ao9007 t491.length co9007) t491):=⟨by refine zR ?_;exact Kd.R_mono (Kd.R_far (p:=⟨gb485,1,none⟩) (Kd.R_far (p:=⟨gb485,0,none⟩) (Kd.R_types HO493.out BK485.out (by decide)) (fun _ hk=>hk.2) (.slice Ao9009 t499.length co9009)) (fun _ hk=>hk.2) (.bool t502)) (fun _ hk=>by first | exact⟨hk.1.1.1,⟨hk.1.1.2.1,⟨hk.1.1.2.2.1,⟨hk.1.1.2.2.2.1,⟨hk.1.1.2.2.2.2.1,⟨hk.1.1.2.2.2.2.2,hk.1.2⟩⟩⟩⟩⟩⟩ | exact zD hk)⟩
       have n6_ : Aside0 (Kd.V (Kd.int .u32) 60 ((w101.setCell ⟨gb485,0,none⟩ (.slice Ao9009 t499.length co9009)).setCell ⟨gb485,1,none⟩ (.bool t502)) w.heap.size (fun k_=>(w.heap.size≤k_)∧some k_≠(v460 : Value).ownBlock∧some k_≠(.slice Ao9001 t463.length co9001 : Value).ownBlock∧some k_≠(.slice Ao9004 t476.length co9004 : Value).ownBlock∧some k_≠(.slice Ao9006 t487.length co9006 : Value).ownBlock∧some k_≠(.slice Ao9007 t491.length co9007 : Value).ownBlock∧some k_≠(.slice Ao9009 t499.length co9009 : Value).ownBlock∧k_≠gb455∧k_≠gb456∧k_≠gb457∧k_≠gb458∧k_≠gb467∧k_≠gb468∧k_≠gb484∧k_≠gb485) (.slice Ao9008 t495.length co9008) t495):=⟨by refine zV ?_;exact Kd.V_mono (Kd.V_far (p:=⟨gb485,1,none⟩) (Kd.V_far (p:=⟨gb485,0,none⟩) (Kd.V_mono HO497.out (fun k_ hk=>(⟨hk,hk.1.2.2.2.2.2.2.2.2.2.2.2.2.2⟩ : _∧k_≠gb485))) (fun _ hk=>hk.2) (.slice Ao9009 t499.length co9009)) (fun _ hk=>hk.2) (.bool t502)) (fun _ hk=>by first | exact⟨hk.1.1.1,⟨hk.1.1.2.1,⟨hk.1.1.2.2.1,⟨hk.1.1.2.2.2.1,⟨hk.1.1.2.2.2.2.1,⟨hk.1.1.2.2.2.2.2.1,⟨hk.1.2,⟨hk.1.1.2.2.2.2.2.2.1,⟨hk.1.1.2.2.2.2.2.2.2.1,⟨hk.1.1.2.2.2.2.2.2.2.2.1,⟨hk.1.1.2.2.2.2.2.2.2.2.2.1,⟨hk.1.1.2.2.2.2.2.2.2.2.2.2.1,⟨hk.1.1.2.2.2.2.2.2.2.2.2.2.2.1,⟨hk.1.1.2.2.2.2.2.2.2.2.2.2.2.2.1,hk.1.1.2.2.2.2.2.2.2.2.2.2.2.2.2⟩⟩⟩⟩⟩⟩⟩⟩⟩⟩⟩⟩⟩⟩ | exact zD hk)⟩
       have n7_ : Aside0 (Kd.R (Kd.int .u32) 60 ((w101.setCell ⟨gb485,0,none⟩ (.slice Ao9009 t499.length co9009)).setCell ⟨gb485,1,none⟩ (.bool t502)) w.heap.size (fun k_=>(w.heap.size≤k_)∧some k_≠(v460 : Value).ownBlock∧some k_≠(.slice Ao9001 t463.length co9001 : Value).ownBlock∧some k_≠(.slice Ao9004 t476.length co9004 : Value).ownBlock∧some k_≠(.slice Ao9005 t480.length co9005 : Value).ownBlock∧some k_≠(.slice Ao9006 t487.length co9006 : Value).ownBlock∧some k_≠(.slice Ao9007 t491.length co9007 : Value).ownBlock) (.slice Ao9009 t499.length co9009) t499):=⟨by refine zR ?_;exact Kd.R_mono (Kd.R_far (p:=⟨gb485,1,none⟩) (Kd.R_far (p:=⟨gb485,0,none⟩) (Kd.R_types HO501.out BK485.out (by decide)) (fun _ hk=>hk.2) (.slice Ao9009 t499.length co9009)) (fun _ hk=>hk.2) (.bool t502)) (fun _ hk=>by first | exact⟨hk.1.1.1.1.1.1.1.1,⟨hk.1.1.1.1.1.1.2,⟨hk.1.1.1.1.1.2,⟨hk.1.1.1.1.2,⟨hk.1.1.1.2,⟨hk.1.1.2,hk.1.2⟩⟩⟩⟩⟩⟩ | exact zD hk)⟩
       have n8_ : Aside0 (((w101.setCell ⟨gb485,0,none⟩ (.slice Ao9009 t499.length co9009)).setCell ⟨gb485,1,none⟩ (.bool t502)).heap[gb455]? = some (.cells #[.bool a0_0,.slice A0_1 l0_1.length c0_1] 25 (0,0))):=⟨by refine zk ?_;refine blk_far ?_ NB455_485.out _;refine zk ?_;refine blk_far ?_ NB455_485.out _;refine zk ?_;exact BK455.out⟩
       have n9_ : Aside0 (((w101.setCell ⟨gb485,0,none⟩ (.slice Ao9009 t499.length co9009)).setCell ⟨gb485,1,none⟩ (.bool t502)).heap[gb456]? = some (.cells #[.bool a1_0,.slice A1_1 l1_1.length c1_1] 25 (0,0))):=⟨by refine zk ?_;refine blk_far ?_ NB456_485.out _;refine zk ?_;refine blk_far ?_ NB456_485.out _;refine zk ?_;exact BK456.out⟩
       have n10_ : Aside0 (((w101.setCell ⟨gb485,0,none⟩ (.slice Ao9009 t499.length co9009)).setCell ⟨gb485,1,none⟩ (.bool t502)).heap[gb457]? = some (.cells #[.bool false,.slice none 0 0] 25 (0,0))):=⟨by refine zk ?_;refine blk_far ?_ NB457_485.out _;refine zk ?_;refine blk_far ?_ NB457_485.out _;refine zk ?_;exact BK457.out⟩
       have n11_ : Aside0 (((w101.setCell ⟨gb485,0,none⟩ (.slice Ao9009 t499.length co9009)).setCell ⟨gb485,1,none⟩ (.bool t502)).heap[gb458]? = some (.cells #[.bool false,.slice none 0 0] 25 (0,0))):=⟨by refine zk ?_;refine blk_far ?_ NB458_485.out _;refine zk ?_;refine blk_far ?_ NB458_485.out _;refine zk ?_;exact BK458.out⟩
       have n12_ : Aside0 (((w101.setCell ⟨gb485,0,none⟩ (.slice Ao9009 t499.length co9009)).setCell ⟨gb485,1,none⟩ (.bool t502)).heap[gb467]? = some (.cells #[v460,.bool t462] 54 (0,0))):=⟨by refine zk ?_;refine blk_far ?_ NB467_485.out _;refine zk ?_;refine blk_far ?_ NB467_485.out _;refine zk ?_;exact BK467.out⟩
       have n13_ : Aside0 (((w101.setCell ⟨gb485,0,none⟩ (.slice Ao9009 t499.length co9009)).setCell ⟨gb485,1,none⟩ (.bool t502)).heap[gb468]? = some (.cells #[.slice Ao9001 t463.length co9001,.bool t466] 54 (0,0))):=⟨by refine zk ?_;refine blk_far ?_ NB468_485.out _;refine zk ?_;refine blk_far ?_ NB468_485.out _;refine zk ?_;exact BK468.out⟩
       have n14_ : Aside0 (((w101.setCell ⟨gb485,0,none⟩ (.slice Ao9009 t499.length co9009)).setCell ⟨gb485,1,none⟩ (.bool t502)).heap[gb484]? = some (.cells #[.slice Ao9007 t491.length co9007,.bool t494] 54 (0,0))):=⟨by refine zk ?_;refine blk_far ?_ NB484_485.out _;refine zk ?_;refine blk_far ?_ NB484_485.out _;refine zk ?_;exact BK484.out⟩
       have n15_ : Aside0 (((w101.setCell ⟨gb485,0,none⟩ (.slice Ao9009 t499.length co9009)).setCell ⟨gb485,1,none⟩ (.bool t502)).heap[gb485]? = some (.cells #[.slice Ao9009 t499.length co9009,.bool t502] 54 (0,0))):=⟨by refine zk ?_;refine blk_put (cs:=#[.slice Ao9009 t499.length co9009,.bool t483]) ?_ 1 _ rfl;refine zk ?_;refine blk_put (cs:=#[.slice Ao9005 t480.length co9005,.bool t483]) ?_ 0 _ rfl;refine zk ?_;exact BK485.out⟩
       have n16_ : Aside0 (Below w.heap.size w ((w101.setCell ⟨gb485,0,none⟩ (.slice Ao9009 t499.length co9009)).setCell ⟨gb485,1,none⟩ (.bool t502))):=⟨zb⟩
       (try clear HO_468000)
       (try clear HO_469000)
       (try clear HO_485000)
       (try clear HO_486000)
       (try clear HO489)
       (try clear HO493)
       (try clear HO497)
       (try clear HO501)
       (try clear BK455)
       (try clear BK456)
       (try clear BK457)
       (try clear BK458)
       (try clear BK467)
       (try clear BK468)
       (try clear BK484)
       (try clear BK485)
       (try clear HB)
       generalize ((w101.setCell ⟨gb485,0,none⟩ (.slice Ao9009 t499.length co9009)).setCell ⟨gb485,1,none⟩ (.bool t502)) = w104 at n0_ n1_ n2_ n3_ n4_ n5_ n6_ n7_ n8_ n9_ n10_ n11_ n12_ n13_ n14_ n15_ n16_ ⊢
       have HO_468000:=n0_
       have HO_469000:=n1_
       have HO_485000:=n2_
       have HO_486000:=n3_
       have HO489:=n4_
       have HO493:=n5_
       have HO497:=n6_
       have HO501:=n7_
       have BK455:=n8_
       have BK456:=n9_
       have BK457:=n10_
       have BK458:=n11_
       have BK467:=n12_
       have BK468:=n13_
       have BK484:=n14_
       have BK485:=n15_
       have HB:=n16_
       clear n0_ n1_ n2_ n3_ n4_ n5_ n6_ n7_ n8_ n9_ n10_ n11_ n12_ n13_ n14_ n15_ n16_
       replace HO_468000:=am (Kd.R_drew HO_468000.out)
       replace HO_469000:=am (Kd.R_drew HO_469000.out)
       replace HO_485000:=am (Kd.R_drew HO_485000.out)
       replace HO_486000:=am (Kd.R_drew HO_486000.out)
       replace HO489:=am (Kd.R_drew HO489.out)
       replace HO493:=am (Kd.R_drew HO493.out)
       replace HO497:=am (Kd.V_drew HO497.out)
       replace HO501:=am (Kd.R_drew HO501.out)
       replace BK455:=am (blk_drew BK455.out)
       replace BK456:=am (blk_drew BK456.out)
       replace BK457:=am (blk_drew BK457.out)
       replace BK458:=am (blk_drew BK458.out)
       replace BK467:=am (blk_drew BK467.out)
       replace BK468:=am (blk_drew BK468.out)
       replace BK484:=am (blk_drew BK484.out)
       replace BK485:=am (blk_drew BK485.out)
       replace HB:=am (below_drew1 HB.out)
       refine start_ (n:=7) (S:=fun w'=>w'.cell? ⟨gb484,0,none⟩ = some (.slice Ao9007 t491.length co9007)∧w'.cell? ⟨gb484,1,none⟩ = some (.bool t494)∧w'.cell? ⟨gb485,0,none⟩ = some (.slice Ao9009 t499.length co9009)∧w'.cell? ⟨gb485,1,none⟩ = some (.bool t502)) (ds:=[]) #[ff,ff,ff,ff,ff,ff,ff] (by kernel_rfl) rfl rfl ⟨(blk_cell BK484.out 0).trans rfl,(blk_cell BK484.out 1).trans rfl,(blk_cell BK485.out 0).trans rfl,(blk_cell BK485.out 1).trans rfl⟩ (fun hHeld=>?_)
       generalize w104.drew = w105 at HO_468000 HO_469000 HO_485000 HO_486000 HO489 HO493 HO497 HO501 BK455 BK456 BK457 BK458 BK467 BK468 BK484 BK485 HB hHeld ⊢
       refine take_ (i:=0) (N:=some 62) (v:=?_) (a':=?_) #[tt,ff,ff,ff,ff,ff,ff] rfl rfl (by kernel_rfl) (fun _ _ _ h=>h) (Or.inl ⟨by rfl,?_⟩) hHeld ?_ ?_
       rotate_left
       ·rintro w' ⟨s0,s1,s2,s3⟩
        go_simp
        with_reducible rfl
       rotate_left
       ·simp only [Act.put,sA,sZ,sS,i64_w,i32_w]
        rfl
       refine take_ (i:=2) (N:=some 64) (v:=?_) (a':=?_) #[tt,ff,tt,ff,ff,ff,ff] rfl rfl (by kernel_rfl) (fun _ _ _ h=>h) (Or.inl ⟨by rfl,?_⟩) hHeld ?_ ?_
       rotate_left
       ·rintro w' ⟨s0,s1,s2,s3⟩
        go_simp
        with_reducible rfl
       rotate_left
       ·simp only [Act.put,sA,sZ,sS,i64_w,i32_w]
        rfl
       refine one_ (i:=1) (N:=some 63) #[tt,tt,tt,ff,ff,ff,ff] rfl rfl (by kernel_rfl) (by decide) (fun K hK=>?_)
       refine goes_ Tryz.func30 (by kernel_rfl) rfl #[.agg #[.slice Ao9007 t491.length co9007,.bool t494]] (by rfl) rfl rfl zl ?_
       with_reducible refine(num_number_out.calls (fun k_=>some k_ = (.slice Ao9007 t491.length co9007 : Value).ownBlock) _ _ t491 t494 t503 t504 _ ?side1 A91.out).mono ?_
       (case side1=>exact Kd.R_V (Kd.R_tight rfl (Kd.R_types (Kd.R_types (Kd.R_types (Kd.R_types (Kd.R_types (Kd.R_types (Kd.R_types (Kd.R_types (HO493.out) BK455.out (by decide)) BK456.out (by decide)) BK457.out (by decide)) BK458.out (by decide)) BK467.out (by decide)) BK468.out (by decide)) BK484.out (by decide)) BK485.out (by decide))))
       rintro e w106 ⟨v505,rfl,ho0,hb⟩
       refine⟨_,rfl,?_⟩
       replace HO497:=vb HO497 hb
       have HO506:=am (Kd.V_lower (Kd.V_mono (ok':=fun k_=>(w.heap.size≤k_)∧some k_≠(v460 : Value).ownBlock∧some k_≠(.slice Ao9001 t463.length co9001 : Value).ownBlock∧some k_≠(.slice Ao9004 t476.length co9004 : Value).ownBlock∧some k_≠(.slice Ao9005 t480.length co9005 : Value).ownBlock∧some k_≠(.slice Ao9006 t487.length co9006 : Value).ownBlock∧some k_≠(.slice Ao9009 t499.length co9009 : Value).ownBlock∧k_≠gb455∧k_≠gb456∧k_≠gb457∧k_≠gb458∧k_≠gb467∧k_≠gb468∧k_≠gb484∧k_≠gb485) ho0 (fun k_ hk_=>⟨Or.elim hk_ (fun hs_=>((Kd.R_types (Kd.R_types (Kd.R_types (Kd.R_types (Kd.R_types (Kd.R_types (Kd.R_types (Kd.R_types (HO493.out) BK455.out (by decide)) BK456.out (by decide)) BK457.out (by decide)) BK458.out (by decide)) BK467.out (by decide)) BK468.out (by decide)) BK484.out (by decide)) BK485.out (by decide)).1 k_ hs_.symm).1.1.1.1.1.1.1.1.1) (fun hn_=>(Nat.le_trans (below_size zb) hn_)),Or.elim hk_ (fun hs_=>((Kd.R_types (Kd.R_types (Kd.R_types (Kd.R_types (Kd.R_types (Kd.R_types (Kd.R_types (Kd.R_types (HO493.out) BK455.out (by decide)) BK456.out (by decide)) BK457.out (by decide)) BK458.out (by decide)) BK467.out (by decide)) BK468.out (by decide)) BK484.out (by decide)) BK485.out (by decide)).1 k_ hs_.symm).1.1.1.1.1.1.1.1.2.1) (fun hn_=>(Kd.fresh' (Kd.R_lt (zR HO_468000.out)) k_ hn_)),Or.elim hk_ (fun hs_=>((Kd.R_types (Kd.R_types (Kd.R_types (Kd.R_types (Kd.R_types (Kd.R_types (Kd.R_types (Kd.R_types (HO493.out) BK455.out (by decide)) BK456.out (by decide)) BK457.out (by decide)) BK458.out (by decide)) BK467.out (by decide)) BK468.out (by decide)) BK484.out (by decide)) BK485.out (by decide)).1 k_ hs_.symm).1.1.1.1.1.1.1.1.2.2.1) (fun hn_=>(Kd.fresh' (Kd.R_lt (zR HO_469000.out)) k_ hn_)),Or.elim hk_ (fun hs_=>((Kd.R_types (Kd.R_types (Kd.R_types (Kd.R_types (Kd.R_types (Kd.R_types (Kd.R_types (Kd.R_types (HO493.out) BK455.out (by decide)) BK456.out (by decide)) BK457.out (by decide)) BK458.out (by decide)) BK467.out (by decide)) BK468.out (by decide)) BK484.out (by decide)) BK485.out (by decide)).1 k_ hs_.symm).1.1.1.1.1.1.1.1.2.2.2.1) (fun hn_=>(Kd.fresh' (Kd.R_lt (zR HO_485000.out)) k_ hn_)),Or.elim hk_ (fun hs_=>((Kd.R_types (Kd.R_types (Kd.R_types (Kd.R_types (Kd.R_types (Kd.R_types (Kd.R_types (Kd.R_types (HO493.out) BK455.out (by decide)) BK456.out (by decide)) BK457.out (by decide)) BK458.out (by decide)) BK467.out (by decide)) BK468.out (by decide)) BK484.out (by decide)) BK485.out (by decide)).1 k_ hs_.symm).1.1.1.1.1.1.1.1.2.2.2.2.1) (fun hn_=>(Kd.fresh' (Kd.R_lt (zR HO_486000.out)) k_ hn_)),Or.elim hk_ (fun hs_=>((Kd.R_types (Kd.R_types (Kd.R_types (Kd.R_types (Kd.R_types (Kd.R_types (Kd.R_types (Kd.R_types (HO493.out) BK455.out (by decide)) BK456.out (by decide)) BK457.out (by decide)) BK458.out (by decide)) BK467.out (by decide)) BK468.out (by decide)) BK484.out (by decide)) BK485.out (by decide)).1 k_ hs_.symm).1.1.1.1.1.1.1.1.2.2.2.2.2.1) (fun hn_=>(Kd.fresh' (Kd.R_lt (zR HO489.out)) k_ hn_)),Or.elim hk_ (fun hs_=>((Kd.R_types (Kd.R_types (Kd.R_types (Kd.R_types (Kd.R_types (Kd.R_types (Kd.R_types (Kd.R_types (HO493.out) BK455.out (by decide)) BK456.out (by decide)) BK457.out (by decide)) BK458.out (by decide)) BK467.out (by decide)) BK468.out (by decide)) BK484.out (by decide)) BK485.out (by decide)).1 k_ hs_.symm).1.1.1.1.1.1.1.1.2.2.2.2.2.2) (fun hn_=>(Kd.fresh' (Kd.R_lt (zR HO501.out)) k_ hn_)),Or.elim hk_ (fun hs_=>((Kd.R_types (Kd.R_types (Kd.R_types (Kd.R_types (Kd.R_types (Kd.R_types (Kd.R_types (Kd.R_types (HO493.out) BK455.out (by decide)) BK456.out (by decide)) BK457.out (by decide)) BK458.out (by decide)) BK467.out (by decide)) BK468.out (by decide)) BK484.out (by decide)) BK485.out (by decide)).1 k_ hs_.symm).1.1.1.1.1.1.1.2) (fun hn_=>(fb BK455 k_ hn_)),Or.elim hk_ (fun hs_=>((Kd.R_types (Kd.R_types (Kd.R_types (Kd.R_types (Kd.R_types (Kd.R_types (Kd.R_types (Kd.R_types (HO493.out) BK455.out (by decide)) BK456.out (by decide)) BK457.out (by decide)) BK458.out (by decide)) BK467.out (by decide)) BK468.out (by decide)) BK484.out (by decide)) BK485.out (by decide)).1 k_ hs_.symm).1.1.1.1.1.1.2) (fun hn_=>(fb BK456 k_ hn_)),Or.elim hk_ (fun hs_=>((Kd.R_types (Kd.R_types (Kd.R_types (Kd.R_types (Kd.R_types (Kd.R_types (Kd.R_types (Kd.R_types (HO493.out) BK455.out (by decide)) BK456.out (by decide)) BK457.out (by decide)) BK458.out (by decide)) BK467.out (by decide)) BK468.out (by decide)) BK484.out (by decide)) BK485.out (by decide)).1 k_ hs_.symm).1.1.1.1.1.2) (fun hn_=>(fb BK457 k_ hn_)),Or.elim hk_ (fun hs_=>((Kd.R_types (Kd.R_types (Kd.R_types (Kd.R_types (Kd.R_types (Kd.R_types (Kd.R_types (Kd.R_types (HO493.out) BK455.out (by decide)) BK456.out (by decide)) BK457.out (by decide)) BK458.out (by decide)) BK467.out (by decide)) BK468.out (by decide)) BK484.out (by decide)) BK485.out (by decide)).1 k_ hs_.symm).1.1.1.1.2) (fun hn_=>(fb BK458 k_ hn_)),Or.elim hk_ (fun hs_=>((Kd.R_types (Kd.R_types (Kd.R_types (Kd.R_types (Kd.R_types (Kd.R_types (Kd.R_types (Kd.R_types (HO493.out) BK455.out (by decide)) BK456.out (by decide)) BK457.out (by decide)) BK458.out (by decide)) BK467.out (by decide)) BK468.out (by decide)) BK484.out (by decide)) BK485.out (by decide)).1 k_ hs_.symm).1.1.1.2) (fun hn_=>(fb BK467 k_ hn_)),Or.elim hk_ (fun hs_=>((Kd.R_types (Kd.R_types (Kd.R_types (Kd.R_types (Kd.R_types (Kd.R_types (Kd.R_types (Kd.R_types (HO493.out) BK455.out (by decide)) BK456.out (by decide)) BK457.out (by decide)) BK458.out (by decide)) BK467.out (by decide)) BK468.out (by decide)) BK484.out (by decide)) BK485.out (by decide)).1 k_ hs_.symm).1.1.2) (fun hn_=>(fb BK468 k_ hn_)),Or.elim hk_ (fun hs_=>((Kd.R_types (Kd.R_types (Kd.R_types (Kd.R_types (Kd.R_types (Kd.R_types (Kd.R_types (Kd.R_types (HO493.out) BK455.out (by decide)) BK456.out (by decide)) BK457.out (by decide)) BK458.out (by decide)) BK467.out (by decide)) BK468.out (by decide)) BK484.out (by decide)) BK485.out (by decide)).1 k_ hs_.symm).1.2) (fun hn_=>(fb BK484 k_ hn_)),Or.elim hk_ (fun hs_=>((Kd.R_types (Kd.R_types (Kd.R_types (Kd.R_types (Kd.R_types (Kd.R_types (Kd.R_types (Kd.R_types (HO493.out) BK455.out (by decide)) BK456.out (by decide)) BK457.out (by decide)) BK458.out (by decide)) BK467.out (by decide)) BK468.out (by decide)) BK484.out (by decide)) BK485.out (by decide)).1 k_ hs_.symm).2) (fun hn_=>(fb BK485 k_ hn_))⟩)) (below_size zb))
       replace HO_468000:=rb HO_468000 hb
       replace HO_469000:=rb HO_469000 hb
       replace HO_485000:=rb HO_485000 hb
       replace HO_486000:=rb HO_486000 hb
       replace HO489:=rb HO489 hb
       replace HO493:=rb HO493 hb
       replace HO501:=rb HO501 hb
       replace BK455:=kb BK455 hb
       replace BK456:=kb BK456 hb
       replace BK457:=kb BK457 hb
       replace BK458:=kb BK458 hb
       replace BK467:=kb BK467 hb
       replace BK468:=kb BK468 hb
       replace BK484:=kb BK484 hb
       replace BK485:=kb BK485 hb
       replace HB:=am (below_step zb hb)
       (try clear hb)
       (try clear hb2)
       (try clear hk)
       (try clear hi)
       (try clear ho0)
       refine hK.out _ _ ⟨(blk_cell BK484.out 0).trans rfl,(blk_cell BK484.out 1).trans rfl,(blk_cell BK485.out 0).trans rfl,(blk_cell BK485.out 1).trans rfl⟩ (fun hHeld=>?_)
       clear hK K
       refine norm_ (a':=?_) ?_ ?_
       rotate_left
       ·show Act.put _ (some 63) _ = _
        simp only [Act.put,sA,sZ,sS,i64_w,i32_w]
        rfl
       refine one_ (i:=3) (N:=some 65) #[tt,tt,tt,tt,ff,ff,ff] rfl rfl (by kernel_rfl) (by decide) (fun K hK=>?_)
       refine goes_ Tryz.func30 (by kernel_rfl) rfl #[.agg #[.slice Ao9009 t499.length co9009,.bool t502]] (by rfl) rfl rfl zl ?_
       with_reducible refine(num_number_out.calls (fun k_=>some k_ = (.slice Ao9009 t499.length co9009 : Value).ownBlock) _ _ t499 t502 t507 t508 _ ?side1 A92.out).mono ?_
       (case side1=>exact Kd.R_V (Kd.R_tight rfl (Kd.R_types (Kd.R_types (Kd.R_types (Kd.R_types (Kd.R_types (Kd.R_types (Kd.R_types (Kd.R_types (HO501.out) BK455.out (by decide)) BK456.out (by decide)) BK457.out (by decide)) BK458.out (by decide)) BK467.out (by decide)) BK468.out (by decide)) BK484.out (by decide)) BK485.out (by decide))))
       rintro e w107 ⟨v509,rfl,ho0,hb⟩
       refine⟨_,rfl,?_⟩
       replace HO497:=vb HO497 hb
       replace HO506:=vb HO506 hb
       have HO510:=am (Kd.V_lower (Kd.V_mono (ok':=fun k_=>(w.heap.size≤k_)∧some k_≠(v460 : Value).ownBlock∧some k_≠(.slice Ao9001 t463.length co9001 : Value).ownBlock∧some k_≠(.slice Ao9004 t476.length co9004 : Value).ownBlock∧some k_≠(.slice Ao9005 t480.length co9005 : Value).ownBlock∧some k_≠(.slice Ao9006 t487.length co9006 : Value).ownBlock∧some k_≠(.slice Ao9007 t491.length co9007 : Value).ownBlock∧k_≠gb455∧k_≠gb456∧k_≠gb457∧k_≠gb458∧k_≠gb467∧k_≠gb468∧k_≠gb484∧k_≠gb485) ho0 (fun k_ hk_=>⟨Or.elim hk_ (fun hs_=>((Kd.R_types (Kd.R_types (Kd.R_types (Kd.R_types (Kd.R_types (Kd.R_types (Kd.R_types (Kd.R_types (HO501.out) BK455.out (by decide)) BK456.out (by decide)) BK457.out (by decide)) BK458.out (by decide)) BK467.out (by decide)) BK468.out (by decide)) BK484.out (by decide)) BK485.out (by decide)).1 k_ hs_.symm).1.1.1.1.1.1.1.1.1) (fun hn_=>(Nat.le_trans (below_size zb) hn_)),Or.elim hk_ (fun hs_=>((Kd.R_types (Kd.R_types (Kd.R_types (Kd.R_types (Kd.R_types (Kd.R_types (Kd.R_types (Kd.R_types (HO501.out) BK455.out (by decide)) BK456.out (by decide)) BK457.out (by decide)) BK458.out (by decide)) BK467.out (by decide)) BK468.out (by decide)) BK484.out (by decide)) BK485.out (by decide)).1 k_ hs_.symm).1.1.1.1.1.1.1.1.2.1) (fun hn_=>(Kd.fresh' (Kd.R_lt (zR HO_468000.out)) k_ hn_)),Or.elim hk_ (fun hs_=>((Kd.R_types (Kd.R_types (Kd.R_types (Kd.R_types (Kd.R_types (Kd.R_types (Kd.R_types (Kd.R_types (HO501.out) BK455.out (by decide)) BK456.out (by decide)) BK457.out (by decide)) BK458.out (by decide)) BK467.out (by decide)) BK468.out (by decide)) BK484.out (by decide)) BK485.out (by decide)).1 k_ hs_.symm).1.1.1.1.1.1.1.1.2.2.1) (fun hn_=>(Kd.fresh' (Kd.R_lt (zR HO_469000.out)) k_ hn_)),Or.elim hk_ (fun hs_=>((Kd.R_types (Kd.R_types (Kd.R_types (Kd.R_types (Kd.R_types (Kd.R_types (Kd.R_types (Kd.R_types (HO501.out) BK455.out (by decide)) BK456.out (by decide)) BK457.out (by decide)) BK458.out (by decide)) BK467.out (by decide)) BK468.out (by decide)) BK484.out (by decide)) BK485.out (by decide)).1 k_ hs_.symm).1.1.1.1.1.1.1.1.2.2.2.1) (fun hn_=>(Kd.fresh' (Kd.R_lt (zR HO_485000.out)) k_ hn_)),Or.elim hk_ (fun hs_=>((Kd.R_types (Kd.R_types (Kd.R_types (Kd.R_types (Kd.R_types (Kd.R_types (Kd.R_types (Kd.R_types (HO501.out) BK455.out (by decide)) BK456.out (by decide)) BK457.out (by decide)) BK458.out (by decide)) BK467.out (by decide)) BK468.out (by decide)) BK484.out (by decide)) BK485.out (by decide)).1 k_ hs_.symm).1.1.1.1.1.1.1.1.2.2.2.2.1) (fun hn_=>(Kd.fresh' (Kd.R_lt (zR HO_486000.out)) k_ hn_)),Or.elim hk_ (fun hs_=>((Kd.R_types (Kd.R_types (Kd.R_types (Kd.R_types (Kd.R_types (Kd.R_types (Kd.R_types (Kd.R_types (HO501.out) BK455.out (by decide)) BK456.out (by decide)) BK457.out (by decide)) BK458.out (by decide)) BK467.out (by decide)) BK468.out (by decide)) BK484.out (by decide)) BK485.out (by decide)).1 k_ hs_.symm).1.1.1.1.1.1.1.1.2.2.2.2.2.1) (fun hn_=>(Kd.fresh' (Kd.R_lt (zR HO489.out)) k_ hn_)),Or.elim hk_ (fun hs_=>((Kd.R_types (Kd.R_types (Kd.R_types (Kd.R_types (Kd.R_types (Kd.R_types (Kd.R_types (Kd.R_types (HO501.out) BK455.out (by decide)) BK456.out (by decide)) BK457.out (by decide)) BK458.out (by decide)) BK467.out (by decide)) BK468.out (by decide)) BK484.out (by decide)) BK485.out (by decide)).1 k_ hs_.symm).1.1.1.1.1.1.1.1.2.2.2.2.2.2) (fun hn_=>(Kd.fresh' (Kd.R_lt (zR HO493.out)) k_ hn_)),Or.elim hk_ (fun hs_=>((Kd.R_types (Kd.R_types (Kd.R_types (Kd.R_types (Kd.R_types (Kd.R_types (Kd.R_types (Kd.R_types (HO501.out) BK455.out (by decide)) BK456.out (by decide)) BK457.out (by decide)) BK458.out (by decide)) BK467.out (by decide)) BK468.out (by decide)) BK484.out (by decide)) BK485.out (by decide)).1 k_ hs_.symm).1.1.1.1.1.1.1.2) (fun hn_=>(fb BK455 k_ hn_)),Or.elim hk_ (fun hs_=>((Kd.R_types (Kd.R_types (Kd.R_types (Kd.R_types (Kd.R_types (Kd.R_types (Kd.R_types (Kd.R_types (HO501.out) BK455.out (by decide)) BK456.out (by decide)) BK457.out (by decide)) BK458.out (by decide)) BK467.out (by decide)) BK468.out (by decide)) BK484.out (by decide)) BK485.out (by decide)).1 k_ hs_.symm).1.1.1.1.1.1.2) (fun hn_=>(fb BK456 k_ hn_)),Or.elim hk_ (fun hs_=>((Kd.R_types (Kd.R_types (Kd.R_types (Kd.R_types (Kd.R_types (Kd.R_types (Kd.R_types (Kd.R_types (HO501.out) BK455.out (by decide)) BK456.out (by decide)) BK457.out (by decide)) BK458.out (by decide)) BK467.out (by decide)) BK468.out (by decide)) BK484.out (by decide)) BK485.out (by decide)).1 k_ hs_.symm).1.1.1.1.1.2) (fun hn_=>(fb BK457 k_ hn_)),Or.elim hk_ (fun hs_=>((Kd.R_types (Kd.R_types (Kd.R_types (Kd.R_types (Kd.R_types (Kd.R_types (Kd.R_types (Kd.R_types (HO501.out) BK455.out (by decide)) BK456.out (by decide)) BK457.out (by decide)) BK458.out (by decide)) BK467.out (by decide)) BK468.out (by decide)) BK484.out (by decide)) BK485.out (by decide)).1 k_ hs_.symm).1.1.1.1.2) (fun hn_=>(fb BK458 k_ hn_)),Or.elim hk_ (fun hs_=>((Kd.R_types (Kd.R_types (Kd.R_types (Kd.R_types (Kd.R_types (Kd.R_types (Kd.R_types (Kd.R_types (HO501.out) BK455.out (by decide)) BK456.out (by decide)) BK457.out (by decide)) BK458.out (by decide)) BK467.out (by decide)) BK468.out (by decide)) BK484.out (by decide)) BK485.out (by decide)).1 k_ hs_.symm).1.1.1.2) (fun hn_=>(fb BK467 k_ hn_)),Or.elim hk_ (fun hs_=>((Kd.R_types (Kd.R_types (Kd.R_types (Kd.R_types (Kd.R_types (Kd.R_types (Kd.R_types (Kd.R_types (HO501.out) BK455.out (by decide)) BK456.out (by decide)) BK457.out (by decide)) BK458.out (by decide)) BK467.out (by decide)) BK468.out (by decide)) BK484.out (by decide)) BK485.out (by decide)).1 k_ hs_.symm).1.1.2) (fun hn_=>(fb BK468 k_ hn_)),Or.elim hk_ (fun hs_=>((Kd.R_types (Kd.R_types (Kd.R_types (Kd.R_types (Kd.R_types (Kd.R_types (Kd.R_types (Kd.R_types (HO501.out) BK455.out (by decide)) BK456.out (by decide)) BK457.out (by decide)) BK458.out (by decide)) BK467.out (by decide)) BK468.out (by decide)) BK484.out (by decide)) BK485.out (by decide)).1 k_ hs_.symm).1.2) (fun hn_=>(fb BK484 k_ hn_)),Or.elim hk_ (fun hs_=>((Kd.R_types (Kd.R_types (Kd.R_types (Kd.R_types (Kd.R_types (Kd.R_types (Kd.R_types (Kd.R_types (HO501.out) BK455.out (by decide)) BK456.out (by decide)) BK457.out (by decide)) BK458.out (by decide)) BK467.out (by decide)) BK468.out (by decide)) BK484.out (by decide)) BK485.out (by decide)).1 k_ hs_.symm).2) (fun hn_=>(fb BK485 k_ hn_))⟩)) (below_size zb))
       replace HO_468000:=rb HO_468000 hb
       replace HO_469000:=rb HO_469000 hb
       replace HO_485000:=rb HO_485000 hb
       replace HO_486000:=rb HO_486000 hb
       replace HO489:=rb HO489 hb
       replace HO493:=rb HO493 hb
       replace HO501:=rb HO501 hb
       replace BK455:=kb BK455 hb
       replace BK456:=kb BK456 hb
       replace BK457:=kb BK457 hb
       replace BK458:=kb BK458 hb
       replace BK467:=kb BK467 hb
       replace BK468:=kb BK468 hb
       replace BK484:=kb BK484 hb
       replace BK485:=kb BK485 hb
       replace HB:=am (below_step zb hb)
       (try clear hb)
       (try clear hb2)
       (try clear hk)
       (try clear hi)
       (try clear ho0)
       obtain⟨Ao9010,co9010,eo9010⟩:=Kd.V_slice HO506.out
       (first | subst eo9010 |(injection eo9010 with f1_ f2_ f3_;have f4_:=f1_.symm;have f5_:=f3_.symm;clear f1_ f2_ f3_;subst f4_;subst f5_))
       obtain⟨Ao9011,co9011,eo9011⟩:=Kd.V_slice HO510.out
       (first | subst eo9011 |(injection eo9011 with f1_ f2_ f3_;have f4_:=f1_.symm;have f5_:=f3_.symm;clear f1_ f2_ f3_;subst f4_;subst f5_))
       refine hK.out _ _ ⟨(blk_cell BK484.out 0).trans rfl,(blk_cell BK484.out 1).trans rfl,(blk_cell BK485.out 0).trans rfl,(blk_cell BK485.out 1).trans rfl⟩ (fun hHeld=>?_)
       clear hK K
       refine norm_ (a':=?_) ?_ ?_
       rotate_left
       ·show Act.put _ (some 65) _ = _
        simp only [Act.put,sA,sZ,sS,i64_w,i32_w]
        rfl
       refine one_ (i:=4) (N:=none) #[tt,tt,tt,tt,tt,ff,ff] rfl rfl (by kernel_rfl) (by decide) (fun K hK=>?_)
       have hs108 : w107.cell? ⟨gb457,0,none⟩ = some (.bool false):=(blk_cell BK457.out 0).trans rfl
       have hfs108:=blk_frozen BK457.out 0
       have hns108_0:=NB455_457.out
       have hns108_1:=NB456_457.out
       have hns108_3:=NB458_457.out
       have hns108_4:=NB467_457.out
       have hns108_5:=NB468_457.out
       have hns108_6:=NB484_457.out
       have hns108_7:=NB485_457.out
       have hms108_0:=NB457_455.out
       have hms108_1:=NB457_456.out
       have hms108_3:=NB457_458.out
       have hms108_4:=NB457_467.out
       have hms108_5:=NB457_468.out
       have hms108_6:=NB457_484.out
       have hms108_7:=NB457_485.out
       have hs109 : w107.cell? ⟨gb457,1,none⟩ = some (.slice none 0 0):=(blk_cell BK457.out 1).trans rfl
       have hfs109:=blk_frozen BK457.out 1
       have hns109_0:=NB455_457.out
       have hns109_1:=NB456_457.out
       have hns109_3:=NB458_457.out
       have hns109_4:=NB467_457.out
       have hns109_5:=NB468_457.out
       have hns109_6:=NB484_457.out
       have hns109_7:=NB485_457.out
       have hms109_0:=NB457_455.out
       have hms109_1:=NB457_456.out
       have hms109_3:=NB457_458.out
       have hms109_4:=NB457_467.out
       have hms109_5:=NB457_468.out
       have hms109_6:=NB457_484.out
       have hms109_7:=NB457_485.out
       refine skip_ (w1:=?_) (by rfl) rfl ?_ ?_
       rotate_left
       ·go_simp
        rfl
       refine hK.out _ _ ⟨((cell_far (p:=⟨gb457,_,none⟩) NB484_457.out _).trans (((cell_far (p:=⟨gb457,_,none⟩) NB484_457.out _).trans (hHeld.1)))),((cell_far (p:=⟨gb457,_,none⟩) NB484_457.out _).trans (((cell_far (p:=⟨gb457,_,none⟩) NB484_457.out _).trans (hHeld.2.1)))),((cell_far (p:=⟨gb457,_,none⟩) NB485_457.out _).trans (((cell_far (p:=⟨gb457,_,none⟩) NB485_457.out _).trans (hHeld.2.2.1)))),((cell_far (p:=⟨gb457,_,none⟩) NB485_457.out _).trans (((cell_far (p:=⟨gb457,_,none⟩) NB485_457.out _).trans (hHeld.2.2.2))))⟩ (fun hHeld=>?_)
       clear hK K
       refine one_ (i:=5) (N:=none) #[tt,tt,tt,tt,tt,tt,ff] rfl rfl (by kernel_rfl) (by decide) (fun K hK=>?_)
       have hs110 : w107.cell? ⟨gb458,0,none⟩ = some (.bool false):=(blk_cell BK458.out 0).trans rfl
       have hfs110:=blk_frozen BK458.out 0
       have hns110_0:=NB455_458.out
       have hns110_1:=NB456_458.out
       have hns110_2:=NB457_458.out
       have hns110_4:=NB467_458.out
       have hns110_5:=NB468_458.out
       have hns110_6:=NB484_458.out
       have hns110_7:=NB485_458.out
       have hms110_0:=NB458_455.out
       have hms110_1:=NB458_456.out
       have hms110_2:=NB458_457.out
       have hms110_4:=NB458_467.out
       have hms110_5:=NB458_468.out
       have hms110_6:=NB458_484.out
       have hms110_7:=NB458_485.out
       have hs111 : w107.cell? ⟨gb458,1,none⟩ = some (.slice none 0 0):=(blk_cell BK458.out 1).trans rfl
       have hfs111:=blk_frozen BK458.out 1
       have hns111_0:=NB455_458.out
       have hns111_1:=NB456_458.out
       have hns111_2:=NB457_458.out
       have hns111_4:=NB467_458.out
       have hns111_5:=NB468_458.out
       have hns111_6:=NB484_458.out
       have hns111_7:=NB485_458.out
       have hms111_0:=NB458_455.out
       have hms111_1:=NB458_456.out
       have hms111_2:=NB458_457.out
       have hms111_4:=NB458_467.out
       have hms111_5:=NB458_468.out
       have hms111_6:=NB458_484.out
       have hms111_7:=NB458_485.out
       refine skip_ (w1:=?_) (by rfl) rfl ?_ ?_
       rotate_left
       ·go_simp
        rfl
       refine hK.out _ _ ⟨((cell_far (p:=⟨gb458,_,none⟩) NB484_458.out _).trans (((cell_far (p:=⟨gb458,_,none⟩) NB484_458.out _).trans (hHeld.1)))),((cell_far (p:=⟨gb458,_,none⟩) NB484_458.out _).trans (((cell_far (p:=⟨gb458,_,none⟩) NB484_458.out _).trans (hHeld.2.1)))),((cell_far (p:=⟨gb458,_,none⟩) NB485_458.out _).trans (((cell_far (p:=⟨gb458,_,none⟩) NB485_458.out _).trans (hHeld.2.2.1)))),((cell_far (p:=⟨gb458,_,none⟩) NB485_458.out _).trans (((cell_far (p:=⟨gb458,_,none⟩) NB485_458.out _).trans (hHeld.2.2.2))))⟩ (fun hHeld=>?_)
       clear hK K
       refine pu (i:=6) (N:=some 6) #[tt,tt,tt,tt,tt,tt,tt] (by kernel_rfl) ?_
       refine done_ (by kernel_rfl) ?_
       try go_wp2
       refine bodyPost_ret (results_list (rs:=[.cell 4 25,.cell 5 25,.tmp 6]) rfl (by simp) (.cell gb457 25 #[.bool t503,.slice Ao9010 t504.length co9010] (0,0) _ rfl (by refine zk ?_;refine blk_far ?_ NB457_458.out _;refine zk ?_;refine blk_far ?_ NB457_458.out _;refine zk ?_;refine blk_put (cs:=#[.bool t503,.slice none 0 0]) ?_ 1 _ rfl;refine zk ?_;refine blk_put (cs:=#[.bool false,.slice none 0 0]) ?_ 0 _ rfl;refine zk ?_;exact BK457.out) Tryz.underlying25 rfl (by kernel_rfl) (.cell gb458 25 #[.bool t507,.slice Ao9011 t508.length co9011] (0,0) _ rfl (by refine zk ?_;refine blk_put (cs:=#[.bool t507,.slice none 0 0]) ?_ 1 _ rfl;refine zk ?_;refine blk_put (cs:=#[.bool false,.slice none 0 0]) ?_ 0 _ rfl;refine zk ?_;refine blk_far ?_ NB458_457.out _;refine zk ?_;refine blk_far ?_ NB458_457.out _;refine zk ?_;exact BK458.out) Tryz.underlying25 rfl (by kernel_rfl) (.tmp .nil)))) rfl ?_
       exact⟨_,_,zf,by refine zV ?_;exact Kd.V_mono (Kd.V_far (p:=⟨gb458,1,none⟩) (Kd.V_far (p:=⟨gb458,0,none⟩) (Kd.V_far (p:=⟨gb457,1,none⟩) (Kd.V_far (p:=⟨gb457,0,none⟩) (Kd.V_mono (Kd.V_mono HO506.out (fun k_ hk=>(⟨hk,hk.2.2.2.2.2.2.2.2.2.1⟩ : _∧k_≠gb457))) (fun k_ hk=>(⟨hk,hk.1.2.2.2.2.2.2.2.2.2.2.1⟩ : _∧k_≠gb458))) (fun _ hk=>hk.1.2) (.bool t503)) (fun _ hk=>hk.1.2) (.slice Ao9010 t504.length co9010)) (fun _ hk=>hk.2) (.bool t507)) (fun _ hk=>hk.2) (.slice Ao9011 t508.length co9011)) (fun _ hk=>hk.1.1.1),by refine zV ?_;exact Kd.V_mono (Kd.V_far (p:=⟨gb458,1,none⟩) (Kd.V_far (p:=⟨gb458,0,none⟩) (Kd.V_far (p:=⟨gb457,1,none⟩) (Kd.V_far (p:=⟨gb457,0,none⟩) (Kd.V_mono (Kd.V_mono HO510.out (fun k_ hk=>(⟨hk,hk.2.2.2.2.2.2.2.2.2.1⟩ : _∧k_≠gb457))) (fun k_ hk=>(⟨hk,hk.1.2.2.2.2.2.2.2.2.2.2.1⟩ : _∧k_≠gb458))) (fun _ hk=>hk.1.2) (.bool t503)) (fun _ hk=>hk.1.2) (.slice Ao9010 t504.length co9010)) (fun _ hk=>hk.2) (.bool t507)) (fun _ hk=>hk.2) (.slice Ao9011 t508.length co9011)) (fun _ hk=>hk.1.1.1),zb⟩
      ·replace c86:=Bool.eq_false_iff.mpr c86
       subst c86
       have H1 : ((num_number_out.f t476 t479).bind fun bt511=>((num_number_out.f t480 t483).bind fun bt515=>(some (bt511.1,bt511.2,bt515.1,bt515.2,0)))) = some (r1,r2,r3,r4,r5):=by rw [if_neg (show ¬ (false = true) by decide)] at H;exact H
       clear H
       have H:=H1
       clear H1
       replace H:=Option.bind_eq_some_iff.mp H
       obtain⟨⟨t511,t512⟩,A1120,H⟩:=H
       try dsimp only at H
       have A112:=am A1120
       clear A1120
       replace H:=Option.bind_eq_some_iff.mp H
       obtain⟨⟨t515,t516⟩,A1130,H⟩:=H
       try dsimp only at H
       have A113:=am A1130
       clear A1130
       simp only [Option.some.injEq,Prod.mk.injEq] at H
       obtain⟨rfl,rfl,rfl,rfl,rfl⟩:=H
       try go_wp2
       replace HO_468000:=am (Kd.R_drew HO_468000.out)
       replace HO_469000:=am (Kd.R_drew HO_469000.out)
       replace HO_485000:=am (Kd.R_drew HO_485000.out)
       replace HO_486000:=am (Kd.R_drew HO_486000.out)
       replace BK455:=am (blk_drew BK455.out)
       replace BK456:=am (blk_drew BK456.out)
       replace BK457:=am (blk_drew BK457.out)
       replace BK458:=am (blk_drew BK458.out)
       replace BK467:=am (blk_drew BK467.out)
       replace BK468:=am (blk_drew BK468.out)
       replace BK484:=am (blk_drew BK484.out)
       replace BK485:=am (blk_drew BK485.out)
       replace HB:=am (below_drew1 HB.out)
       obtain⟨Ao9004,co9004,eo9004⟩:=Kd.R_slice HO_485000.out
       (first | subst eo9004 |(injection eo9004 with f1_ f2_ f3_;have f4_:=f1_.symm;have f5_:=f3_.symm;clear f1_ f2_ f3_;subst f4_;subst f5_))
       refine start_ (n:=7) (S:=fun w'=>w'.cell? ⟨gb484,0,none⟩ = some (.slice Ao9004 t476.length co9004)∧w'.cell? ⟨gb484,1,none⟩ = some (.bool t479)∧w'.cell? ⟨gb485,0,none⟩ = some (v481)∧w'.cell? ⟨gb485,1,none⟩ = some (.bool t483)) (ds:=[]) #[ff,ff,ff,ff,ff,ff,ff] (by kernel_rfl) rfl rfl ⟨(blk_cell BK484.out 0).trans rfl,(blk_cell BK484.out 1).trans rfl,(blk_cell BK485.out 0).trans rfl,(blk_cell BK485.out 1).trans rfl⟩ (fun hHeld=>?_)
       generalize wc.drew = w114 at HO_468000 HO_469000 HO_485000 HO_486000 BK455 BK456 BK457 BK458 BK467 BK468 BK484 BK485 HB hHeld ⊢
       refine take_ (i:=0) (N:=some 62) (v:=?_) (a':=?_) #[tt,ff,ff,ff,ff,ff,ff] rfl rfl (by kernel_rfl) (fun _ _ _ h=>h) (Or.inl ⟨by rfl,?_⟩) hHeld ?_ ?_
       rotate_left
       ·rintro w' ⟨s0,s1,s2,s3⟩
        go_simp
        with_reducible rfl
       rotate_left
       ·simp only [Act.put,sA,sZ,sS,i64_w,i32_w]
        rfl
       refine take_ (i:=2) (N:=some 64) (v:=?_) (a':=?_) #[tt,ff,tt,ff,ff,ff,ff] rfl rfl (by kernel_rfl) (fun _ _ _ h=>h) (Or.inl ⟨by rfl,?_⟩) hHeld ?_ ?_
       rotate_left
       ·rintro w' ⟨s0,s1,s2,s3⟩
        go_simp
        with_reducible rfl
       rotate_left
       ·simp only [Act.put,sA,sZ,sS,i64_w,i32_w]
        rfl
       refine one_ (i:=1) (N:=some 63) #[tt,tt,tt,ff,ff,ff,ff] rfl rfl (by kernel_rfl) (by decide) (fun K hK=>?_)
       refine goes_ Tryz.func30 (by kernel_rfl) rfl #[.agg #[.slice Ao9004 t476.length co9004,.bool t479]] (by rfl) rfl rfl zl ?_
       with_reducible refine(num_number_out.calls (fun k_=>some k_ = (.slice Ao9004 t476.length co9004 : Value).ownBlock) _ _ t476 t479 t511 t512 _ ?side1 A112.out).mono ?_
       (case side1=>exact Kd.R_V (Kd.R_tight rfl (Kd.R_types (Kd.R_types (Kd.R_types (Kd.R_types (Kd.R_types (Kd.R_types (Kd.R_types (Kd.R_types (HO_485000.out) BK455.out (by decide)) BK456.out (by decide)) BK457.out (by decide)) BK458.out (by decide)) BK467.out (by decide)) BK468.out (by decide)) BK484.out (by decide)) BK485.out (by decide))))
       rintro e w115 ⟨v513,rfl,ho0,hb⟩
       refine⟨_,rfl,?_⟩
       have HO514:=am (Kd.V_lower (Kd.V_mono (ok':=fun k_=>(w.heap.size≤k_)∧some k_≠(v460 : Value).ownBlock∧some k_≠(v464 : Value).ownBlock∧some k_≠(v481 : Value).ownBlock∧k_≠gb455∧k_≠gb456∧k_≠gb457∧k_≠gb458∧k_≠gb467∧k_≠gb468∧k_≠gb484∧k_≠gb485) ho0 (fun k_ hk_=>⟨Or.elim hk_ (fun hs_=>((Kd.R_types (Kd.R_types (Kd.R_types (Kd.R_types (Kd.R_types (Kd.R_types (Kd.R_types (Kd.R_types (HO_485000.out) BK455.out (by decide)) BK456.out (by decide)) BK457.out (by decide)) BK458.out (by decide)) BK467.out (by decide)) BK468.out (by decide)) BK484.out (by decide)) BK485.out (by decide)).1 k_ hs_.symm).1.1.1.1.1.1.1.1.1) (fun hn_=>(Nat.le_trans (below_size zb) hn_)),Or.elim hk_ (fun hs_=>((Kd.R_types (Kd.R_types (Kd.R_types (Kd.R_types (Kd.R_types (Kd.R_types (Kd.R_types (Kd.R_types (HO_485000.out) BK455.out (by decide)) BK456.out (by decide)) BK457.out (by decide)) BK458.out (by decide)) BK467.out (by decide)) BK468.out (by decide)) BK484.out (by decide)) BK485.out (by decide)).1 k_ hs_.symm).1.1.1.1.1.1.1.1.2.1) (fun hn_=>(Kd.fresh' (Kd.R_lt (zR HO_468000.out)) k_ hn_)),Or.elim hk_ (fun hs_=>((Kd.R_types (Kd.R_types (Kd.R_types (Kd.R_types (Kd.R_types (Kd.R_types (Kd.R_types (Kd.R_types (HO_485000.out) BK455.out (by decide)) BK456.out (by decide)) BK457.out (by decide)) BK458.out (by decide)) BK467.out (by decide)) BK468.out (by decide)) BK484.out (by decide)) BK485.out (by decide)).1 k_ hs_.symm).1.1.1.1.1.1.1.1.2.2.1) (fun hn_=>(Kd.fresh' (Kd.R_lt (zR HO_469000.out)) k_ hn_)),Or.elim hk_ (fun hs_=>((Kd.R_types (Kd.R_types (Kd.R_types (Kd.R_types (Kd.R_types (Kd.R_types (Kd.R_types (Kd.R_types (HO_485000.out) BK455.out (by decide)) BK456.out (by decide)) BK457.out (by decide)) BK458.out (by decide)) BK467.out (by decide)) BK468.out (by decide)) BK484.out (by decide)) BK485.out (by decide)).1 k_ hs_.symm).1.1.1.1.1.1.1.1.2.2.2) (fun hn_=>(Kd.fresh' (Kd.R_lt (zR HO_486000.out)) k_ hn_)),Or.elim hk_ (fun hs_=>((Kd.R_types (Kd.R_types (Kd.R_types (Kd.R_types (Kd.R_types (Kd.R_types (Kd.R_types (Kd.R_types (HO_485000.out) BK455.out (by decide)) BK456.out (by decide)) BK457.out (by decide)) BK458.out (by decide)) BK467.out (by decide)) BK468.out (by decide)) BK484.out (by decide)) BK485.out (by decide)).1 k_ hs_.symm).1.1.1.1.1.1.1.2) (fun hn_=>(fb BK455 k_ hn_)),Or.elim hk_ (fun hs_=>((Kd.R_types (Kd.R_types (Kd.R_types (Kd.R_types (Kd.R_types (Kd.R_types (Kd.R_types (Kd.R_types (HO_485000.out) BK455.out (by decide)) BK456.out (by decide)) BK457.out (by decide)) BK458.out (by decide)) BK467.out (by decide)) BK468.out (by decide)) BK484.out (by decide)) BK485.out (by decide)).1 k_ hs_.symm).1.1.1.1.1.1.2) (fun hn_=>(fb BK456 k_ hn_)),Or.elim hk_ (fun hs_=>((Kd.R_types (Kd.R_types (Kd.R_types (Kd.R_types (Kd.R_types (Kd.R_types (Kd.R_types (Kd.R_types (HO_485000.out) BK455.out (by decide)) BK456.out (by decide)) BK457.out (by decide)) BK458.out (by decide)) BK467.out (by decide)) BK468.out (by decide)) BK484.out (by decide)) BK485.out (by decide)).1 k_ hs_.symm).1.1.1.1.1.2) (fun hn_=>(fb BK457 k_ hn_)),Or.elim hk_ (fun hs_=>((Kd.R_types (Kd.R_types (Kd.R_types (Kd.R_types (Kd.R_types (Kd.R_types (Kd.R_types (Kd.R_types (HO_485000.out) BK455.out (by decide)) BK456.out (by decide)) BK457.out (by decide)) BK458.out (by decide)) BK467.out (by decide)) BK468.out (by decide)) BK484.out (by decide)) BK485.out (by decide)).1 k_ hs_.symm).1.1.1.1.2) (fun hn_=>(fb BK458 k_ hn_)),Or.elim hk_ (fun hs_=>((Kd.R_types (Kd.R_types (Kd.R_types (Kd.R_types (Kd.R_types (Kd.R_types (Kd.R_types (Kd.R_types (HO_485000.out) BK455.out (by decide)) BK456.out (by decide)) BK457.out (by decide)) BK458.out (by decide)) BK467.out (by decide)) BK468.out (by decide)) BK484.out (by decide)) BK485.out (by decide)).1 k_ hs_.symm).1.1.1.2) (fun hn_=>(fb BK467 k_ hn_)),Or.elim hk_ (fun hs_=>((Kd.R_types (Kd.R_types (Kd.R_types (Kd.R_types (Kd.R_types (Kd.R_types (Kd.R_types (Kd.R_types (HO_485000.out) BK455.out (by decide)) BK456.out (by decide)) BK457.out (by decide)) BK458.out (by decide)) BK467.out (by decide)) BK468.out (by decide)) BK484.out (by decide)) BK485.out (by decide)).1 k_ hs_.symm).1.1.2) (fun hn_=>(fb BK468 k_ hn_)),Or.elim hk_ (fun hs_=>((Kd.R_types (Kd.R_types (Kd.R_types (Kd.R_types (Kd.R_types (Kd.R_types (Kd.R_types (Kd.R_types (HO_485000.out) BK455.out (by decide)) BK456.out (by decide)) BK457.out (by decide)) BK458.out (by decide)) BK467.out (by decide)) BK468.out (by decide)) BK484.out (by decide)) BK485.out (by decide)).1 k_ hs_.symm).1.2) (fun hn_=>(fb BK484 k_ hn_)),Or.elim hk_ (fun hs_=>((Kd.R_types (Kd.R_types (Kd.R_types (Kd.R_types (Kd.R_types (Kd.R_types (Kd.R_types (Kd.R_types (HO_485000.out) BK455.out (by decide)) BK456.out (by decide)) BK457.out (by decide)) BK458.out (by decide)) BK467.out (by decide)) BK468.out (by decide)) BK484.out (by decide)) BK485.out (by decide)).1 k_ hs_.symm).2) (fun hn_=>(fb BK485 k_ hn_))⟩)) (below_size zb))
       replace HO_468000:=rb HO_468000 hb
       replace HO_469000:=rb HO_469000 hb
       replace HO_485000:=rb HO_485000 hb
       replace HO_486000:=rb HO_486000 hb
       replace BK455:=kb BK455 hb
       replace BK456:=kb BK456 hb
       replace BK457:=kb BK457 hb
       replace BK458:=kb BK458 hb
       replace BK467:=kb BK467 hb
       replace BK468:=kb BK468 hb
       replace BK484:=kb BK484 hb
       replace BK485:=kb BK485 hb
       replace HB:=am (below_step zb hb)
       (try clear hb)
       (try clear hb2)
       (try clear hk)
       (try clear hi)
       (try clear ho0)
       obtain⟨Ao9005,co9005,eo9005⟩:=Kd.R_slice HO_486000.out
       (first | subst eo9005 |(injection eo9005 with f1_ f2_ f3_;have f4_:=f1_.symm;have f5_:=f3_.symm;clear f1_ f2_ f3_;subst f4_;subst f5_))
       refine hK.out _ _ ⟨(blk_cell BK484.out 0).trans rfl,(blk_cell BK484.out 1).trans rfl,(blk_cell BK485.out 0).trans rfl,(blk_cell BK485.out 1).trans rfl⟩ (fun hHeld=>?_)
       clear hK K
       refine norm_ (a':=?_) ?_ ?_
       rotate_left
       ·show Act.put _ (some 63) _ = _
        simp only [Act.put,sA,sZ,sS,i64_w,i32_w]
        rfl
       refine one_ (i:=3) (N:=some 65) #[tt,tt,tt,tt,ff,ff,ff] rfl rfl (by kernel_rfl) (by decide) (fun K hK=>?_)
       refine goes_ Tryz.func30 (by kernel_rfl) rfl #[.agg #[.slice Ao9005 t480.length co9005,.bool t483]] (by rfl) rfl rfl zl ?_
       with_reducible refine(num_number_out.calls (fun k_=>some k_ = (.slice Ao9005 t480.length co9005 : Value).ownBlock) _ _ t480 t483 t515 t516 _ ?side1 A113.out).mono ?_
       (case side1=>exact Kd.R_V (Kd.R_tight rfl (Kd.R_types (Kd.R_types (Kd.R_types (Kd.R_types (Kd.R_types (Kd.R_types (Kd.R_types (Kd.R_types (HO_486000.out) BK455.out (by decide)) BK456.out (by decide)) BK457.out (by decide)) BK458.out (by decide)) BK467.out (by decide)) BK468.out (by decide)) BK484.out (by decide)) BK485.out (by decide))))
       rintro e w116 ⟨v517,rfl,ho0,hb⟩
       refine⟨_,rfl,?_⟩
       replace HO514:=vb HO514 hb
       have HO518:=am (Kd.V_lower (Kd.V_mono (ok':=fun k_=>(w.heap.size≤k_)∧some k_≠(v460 : Value).ownBlock∧some k_≠(v464 : Value).ownBlock∧some k_≠(.slice Ao9004 t476.length co9004 : Value).ownBlock∧k_≠gb455∧k_≠gb456∧k_≠gb457∧k_≠gb458∧k_≠gb467∧k_≠gb468∧k_≠gb484∧k_≠gb485) ho0 (fun k_ hk_=>⟨Or.elim hk_ (fun hs_=>((Kd.R_types (Kd.R_types (Kd.R_types (Kd.R_types (Kd.R_types (Kd.R_types (Kd.R_types (Kd.R_types (HO_486000.out) BK455.out (by decide)) BK456.out (by decide)) BK457.out (by decide)) BK458.out (by decide)) BK467.out (by decide)) BK468.out (by decide)) BK484.out (by decide)) BK485.out (by decide)).1 k_ hs_.symm).1.1.1.1.1.1.1.1.1) (fun hn_=>(Nat.le_trans (below_size zb) hn_)),Or.elim hk_ (fun hs_=>((Kd.R_types (Kd.R_types (Kd.R_types (Kd.R_types (Kd.R_types (Kd.R_types (Kd.R_types (Kd.R_types (HO_486000.out) BK455.out (by decide)) BK456.out (by decide)) BK457.out (by decide)) BK458.out (by decide)) BK467.out (by decide)) BK468.out (by decide)) BK484.out (by decide)) BK485.out (by decide)).1 k_ hs_.symm).1.1.1.1.1.1.1.1.2.1) (fun hn_=>(Kd.fresh' (Kd.R_lt (zR HO_468000.out)) k_ hn_)),Or.elim hk_ (fun hs_=>((Kd.R_types (Kd.R_types (Kd.R_types (Kd.R_types (Kd.R_types (Kd.R_types (Kd.R_types (Kd.R_types (HO_486000.out) BK455.out (by decide)) BK456.out (by decide)) BK457.out (by decide)) BK458.out (by decide)) BK467.out (by decide)) BK468.out (by decide)) BK484.out (by decide)) BK485.out (by decide)).1 k_ hs_.symm).1.1.1.1.1.1.1.1.2.2.1) (fun hn_=>(Kd.fresh' (Kd.R_lt (zR HO_469000.out)) k_ hn_)),Or.elim hk_ (fun hs_=>((Kd.R_types (Kd.R_types (Kd.R_types (Kd.R_types (Kd.R_types (Kd.R_types (Kd.R_types (Kd.R_types (HO_486000.out) BK455.out (by decide)) BK456.out (by decide)) BK457.out (by decide)) BK458.out (by decide)) BK467.out (by decide)) BK468.out (by decide)) BK484.out (by decide)) BK485.out (by decide)).1 k_ hs_.symm).1.1.1.1.1.1.1.1.2.2.2) (fun hn_=>(Kd.fresh' (Kd.R_lt (zR HO_485000.out)) k_ hn_)),Or.elim hk_ (fun hs_=>((Kd.R_types (Kd.R_types (Kd.R_types (Kd.R_types (Kd.R_types (Kd.R_types (Kd.R_types (Kd.R_types (HO_486000.out) BK455.out (by decide)) BK456.out (by decide)) BK457.out (by decide)) BK458.out (by decide)) BK467.out (by decide)) BK468.out (by decide)) BK484.out (by decide)) BK485.out (by decide)).1 k_ hs_.symm).1.1.1.1.1.1.1.2) (fun hn_=>(fb BK455 k_ hn_)),Or.elim hk_ (fun hs_=>((Kd.R_types (Kd.R_types (Kd.R_types (Kd.R_types (Kd.R_types (Kd.R_types (Kd.R_types (Kd.R_types (HO_486000.out) BK455.out (by decide)) BK456.out (by decide)) BK457.out (by decide)) BK458.out (by decide)) BK467.out (by decide)) BK468.out (by decide)) BK484.out (by decide)) BK485.out (by decide)).1 k_ hs_.symm).1.1.1.1.1.1.2) (fun hn_=>(fb BK456 k_ hn_)),Or.elim hk_ (fun hs_=>((Kd.R_types (Kd.R_types (Kd.R_types (Kd.R_types (Kd.R_types (Kd.R_types (Kd.R_types (Kd.R_types (HO_486000.out) BK455.out (by decide)) BK456.out (by decide)) BK457.out (by decide)) BK458.out (by decide)) BK467.out (by decide)) BK468.out (by decide)) BK484.out (by decide)) BK485.out (by decide)).1 k_ hs_.symm).1.1.1.1.1.2) (fun hn_=>(fb BK457 k_ hn_)),Or.elim hk_ (fun hs_=>((Kd.R_types (Kd.R_types (Kd.R_types (Kd.R_types (Kd.R_types (Kd.R_types (Kd.R_types (Kd.R_types (HO_486000.out) BK455.out (by decide)) BK456.out (by decide)) BK457.out (by decide)) BK458.out (by decide)) BK467.out (by decide)) BK468.out (by decide)) BK484.out (by decide)) BK485.out (by decide)).1 k_ hs_.symm).1.1.1.1.2) (fun hn_=>(fb BK458 k_ hn_)),Or.elim hk_ (fun hs_=>((Kd.R_types (Kd.R_types (Kd.R_types (Kd.R_types (Kd.R_types (Kd.R_types (Kd.R_types (Kd.R_types (HO_486000.out) BK455.out (by decide)) BK456.out (by decide)) BK457.out (by decide)) BK458.out (by decide)) BK467.out (by decide)) BK468.out (by decide)) BK484.out (by decide)) BK485.out (by decide)).1 k_ hs_.symm).1.1.1.2) (fun hn_=>(fb BK467 k_ hn_)),Or.elim hk_ (fun hs_=>((Kd.R_types (Kd.R_types (Kd.R_types (Kd.R_types (Kd.R_types (Kd.R_types (Kd.R_types (Kd.R_types (HO_486000.out) BK455.out (by decide)) BK456.out (by decide)) BK457.out (by decide)) BK458.out (by decide)) BK467.out (by decide)) BK468.out (by decide)) BK484.out (by decide)) BK485.out (by decide)).1 k_ hs_.symm).1.1.2) (fun hn_=>(fb BK468 k_ hn_)),Or.elim hk_ (fun hs_=>((Kd.R_types (Kd.R_types (Kd.R_types (Kd.R_types (Kd.R_types (Kd.R_types (Kd.R_types (Kd.R_types (HO_486000.out) BK455.out (by decide)) BK456.out (by decide)) BK457.out (by decide)) BK458.out (by decide)) BK467.out (by decide)) BK468.out (by decide)) BK484.out (by decide)) BK485.out (by decide)).1 k_ hs_.symm).1.2) (fun hn_=>(fb BK484 k_ hn_)),Or.elim hk_ (fun hs_=>((Kd.R_types (Kd.R_types (Kd.R_types (Kd.R_types (Kd.R_types (Kd.R_types (Kd.R_types (Kd.R_types (HO_486000.out) BK455.out (by decide)) BK456.out (by decide)) BK457.out (by decide)) BK458.out (by decide)) BK467.out (by decide)) BK468.out (by decide)) BK484.out (by decide)) BK485.out (by decide)).1 k_ hs_.symm).2) (fun hn_=>(fb BK485 k_ hn_))⟩)) (below_size zb))
       replace HO_468000:=rb HO_468000 hb
       replace HO_469000:=rb HO_469000 hb
       replace HO_485000:=rb HO_485000 hb
       replace HO_486000:=rb HO_486000 hb
       replace BK455:=kb BK455 hb
       replace BK456:=kb BK456 hb
       replace BK457:=kb BK457 hb
       replace BK458:=kb BK458 hb
       replace BK467:=kb BK467 hb
       replace BK468:=kb BK468 hb
       replace BK484:=kb BK484 hb
       replace BK485:=kb BK485 hb
       replace HB:=am (below_step zb hb)
       (try clear hb)
       (try clear hb2)
       (try clear hk)
       (try clear hi)
       (try clear ho0)
       obtain⟨Ao9012,co9012,eo9012⟩:=Kd.V_slice HO514.out
       (first | subst eo9012 |(injection eo9012 with f1_ f2_ f3_;have f4_:=f1_.symm;have f5_:=f3_.symm;clear f1_ f2_ f3_;subst f4_;subst f5_))
       obtain⟨Ao9013,co9013,eo9013⟩:=Kd.V_slice HO518.out
       (first | subst eo9013 |(injection eo9013 with f1_ f2_ f3_;have f4_:=f1_.symm;have f5_:=f3_.symm;clear f1_ f2_ f3_;subst f4_;subst f5_))
       refine hK.out _ _ ⟨(blk_cell BK484.out 0).trans rfl,(blk_cell BK484.out 1).trans rfl,(blk_cell BK485.out 0).trans rfl,(blk_cell BK485.out 1).trans rfl⟩ (fun hHeld=>?_)
       clear hK K
       refine norm_ (a':=?_) ?_ ?_
       rotate_left
       ·show Act.put _ (some 65) _ = _
        simp only [Act.put,sA,sZ,sS,i64_w,i32_w]
        rfl
       refine one_ (i:=4) (N:=none) #[tt,tt,tt,tt,tt,ff,ff] rfl rfl (by kernel_rfl) (by decide) (fun K hK=>?_)
       have hs117 : w116.cell? ⟨gb457,0,none⟩ = some (.bool false):=(blk_cell BK457.out 0).trans rfl
       have hfs117:=blk_frozen BK457.out 0
       have hns117_0:=NB455_457.out
       have hns117_1:=NB456_457.out
       have hns117_3:=NB458_457.out
       have hns117_4:=NB467_457.out
       have hns117_5:=NB468_457.out
       have hns117_6:=NB484_457.out
       have hns117_7:=NB485_457.out
       have hms117_0:=NB457_455.out
       have hms117_1:=NB457_456.out
       have hms117_3:=NB457_458.out
       have hms117_4:=NB457_467.out
       have hms117_5:=NB457_468.out
       have hms117_6:=NB457_484.out
       have hms117_7:=NB457_485.out
       have hs118 : w116.cell? ⟨gb457,1,none⟩ = some (.slice none 0 0):=(blk_cell BK457.out 1).trans rfl
       have hfs118:=blk_frozen BK457.out 1
       have hns118_0:=NB455_457.out
       have hns118_1:=NB456_457.out
       have hns118_3:=NB458_457.out
       have hns118_4:=NB467_457.out
       have hns118_5:=NB468_457.out
       have hns118_6:=NB484_457.out
       have hns118_7:=NB485_457.out
       have hms118_0:=NB457_455.out
       have hms118_1:=NB457_456.out
       have hms118_3:=NB457_458.out
       have hms118_4:=NB457_467.out
       have hms118_5:=NB457_468.out
       have hms118_6:=NB457_484.out
       have hms118_7:=NB457_485.out
       refine skip_ (w1:=?_) (by rfl) rfl ?_ ?_
       rotate_left
       ·go_simp
        rfl
       refine hK.out _ _ ⟨((cell_far (p:=⟨gb457,_,none⟩) NB484_457.out _).trans (((cell_far (p:=⟨gb457,_,none⟩) NB484_457.out _).trans (hHeld.1)))),((cell_far (p:=⟨gb457,_,none⟩) NB484_457.out _).trans (((cell_far (p:=⟨gb457,_,none⟩) NB484_457.out _).trans (hHeld.2.1)))),((cell_far (p:=⟨gb457,_,none⟩) NB485_457.out _).trans (((cell_far (p:=⟨gb457,_,none⟩) NB485_457.out _).trans (hHeld.2.2.1)))),((cell_far (p:=⟨gb457,_,none⟩) NB485_457.out _).trans (((cell_far (p:=⟨gb457,_,none⟩) NB485_457.out _).trans (hHeld.2.2.2))))⟩ (fun hHeld=>?_)
       clear hK K
       refine one_ (i:=5) (N:=none) #[tt,tt,tt,tt,tt,tt,ff] rfl rfl (by kernel_rfl) (by decide) (fun K hK=>?_)
       have hs119 : w116.cell? ⟨gb458,0,none⟩ = some (.bool false):=(blk_cell BK458.out 0).trans rfl
       have hfs119:=blk_frozen BK458.out 0
       have hns119_0:=NB455_458.out
       have hns119_1:=NB456_458.out
       have hns119_2:=NB457_458.out
       have hns119_4:=NB467_458.out
       have hns119_5:=NB468_458.out
       have hns119_6:=NB484_458.out
       have hns119_7:=NB485_458.out
       have hms119_0:=NB458_455.out
       have hms119_1:=NB458_456.out
       have hms119_2:=NB458_457.out
       have hms119_4:=NB458_467.out
       have hms119_5:=NB458_468.out
       have hms119_6:=NB458_484.out
       have hms119_7:=NB458_485.out
       have hs120 : w116.cell? ⟨gb458,1,none⟩ = some (.slice none 0 0):=(blk_cell BK458.out 1).trans rfl
       have hfs120:=blk_frozen BK458.out 1
       have hns120_0:=NB455_458.out
       have hns120_1:=NB456_458.out
       have hns120_2:=NB457_458.out
       have hns120_4:=NB467_458.out
       have hns120_5:=NB468_458.out
       have hns120_6:=NB484_458.out
       have hns120_7:=NB485_458.out
       have hms120_0:=NB458_455.out
       have hms120_1:=NB458_456.out
       have hms120_2:=NB458_457.out
       have hms120_4:=NB458_467.out
       have hms120_5:=NB458_468.out
       have hms120_6:=NB458_484.out
       have hms120_7:=NB458_485.out
       refine skip_ (w1:=?_) (by rfl) rfl ?_ ?_
       rotate_left
       ·go_simp
        rfl
       refine hK.out _ _ ⟨((cell_far (p:=⟨gb458,_,none⟩) NB484_458.out _).trans (((cell_far (p:=⟨gb458,_,none⟩) NB484_458.out _).trans (hHeld.1)))),((cell_far (p:=⟨gb458,_,none⟩) NB484_458.out _).trans (((cell_far (p:=⟨gb458,_,none⟩) NB484_458.out _).trans (hHeld.2.1)))),((cell_far (p:=⟨gb458,_,none⟩) NB485_458.out _).trans (((cell_far (p:=⟨gb458,_,none⟩) NB485_458.out _).trans (hHeld.2.2.1)))),((cell_far (p:=⟨gb458,_,none⟩) NB485_458.out _).trans (((cell_far (p:=⟨gb458,_,none⟩) NB485_458.out _).trans (hHeld.2.2.2))))⟩ (fun hHeld=>?_)
       clear hK K
       refine pu (i:=6) (N:=some 6) #[tt,tt,tt,tt,tt,tt,tt] (by kernel_rfl) ?_
       refine done_ (by kernel_rfl) ?_
       try go_wp2
       refine bodyPost_ret (results_list (rs:=[.cell 4 25,.cell 5 25,.tmp 6]) rfl (by simp) (.cell gb457 25 #[.bool t511,.slice Ao9012 t512.length co9012] (0,0) _ rfl (by refine zk ?_;refine blk_far ?_ NB457_458.out _;refine zk ?_;refine blk_far ?_ NB457_458.out _;refine zk ?_;refine blk_put (cs:=#[.bool t511,.slice none 0 0]) ?_ 1 _ rfl;refine zk ?_;refine blk_put (cs:=#[.bool false,.slice none 0 0]) ?_ 0 _ rfl;refine zk ?_;exact BK457.out) Tryz.underlying25 rfl (by kernel_rfl) (.cell gb458 25 #[.bool t515,.slice Ao9013 t516.length co9013] (0,0) _ rfl (by refine zk ?_;refine blk_put (cs:=#[.bool t515,.slice none 0 0]) ?_ 1 _ rfl;refine zk ?_;refine blk_put (cs:=#[.bool false,.slice none 0 0]) ?_ 0 _ rfl;refine zk ?_;refine blk_far ?_ NB458_457.out _;refine zk ?_;refine blk_far ?_ NB458_457.out _;refine zk ?_;exact BK458.out) Tryz.underlying25 rfl (by kernel_rfl) (.tmp .nil)))) rfl ?_
       exact⟨_,_,zf,by refine zV ?_;exact Kd.V_mono (Kd.V_far (p:=⟨gb458,1,none⟩) (Kd.V_far (p:=⟨gb458,0,none⟩) (Kd.V_far (p:=⟨gb457,1,none⟩) (Kd.V_far (p:=⟨gb457,0,none⟩) (Kd.V_mono (Kd.V_mono HO514.out (fun k_ hk=>(⟨hk,hk.2.2.2.2.2.2.1⟩ : _∧k_≠gb457))) (fun k_ hk=>(⟨hk,hk.1.2.2.2.2.2.2.2.1⟩ : _∧k_≠gb458))) (fun _ hk=>hk.1.2) (.bool t511)) (fun _ hk=>hk.1.2) (.slice Ao9012 t512.length co9012)) (fun _ hk=>hk.2) (.bool t515)) (fun _ hk=>hk.2) (.slice Ao9013 t516.length co9013)) (fun _ hk=>hk.1.1.1),by refine zV ?_;exact Kd.V_mono (Kd.V_far (p:=⟨gb458,1,none⟩) (Kd.V_far (p:=⟨gb458,0,none⟩) (Kd.V_far (p:=⟨gb457,1,none⟩) (Kd.V_far (p:=⟨gb457,0,none⟩) (Kd.V_mono (Kd.V_mono HO518.out (fun k_ hk=>(⟨hk,hk.2.2.2.2.2.2.1⟩ : _∧k_≠gb457))) (fun k_ hk=>(⟨hk,hk.1.2.2.2.2.2.2.2.1⟩ : _∧k_≠gb458))) (fun _ hk=>hk.1.2) (.bool t511)) (fun _ hk=>hk.1.2) (.slice Ao9012 t512.length co9012)) (fun _ hk=>hk.2) (.bool t515)) (fun _ hk=>hk.2) (.slice Ao9013 t516.length co9013)) (fun _ hk=>hk.1.1.1),zb⟩
   ·replace c33:=Bool.eq_false_iff.mpr c33
    subst c33
    have H1 : (some (false,([] : List Int),ff,([] : List Int),9)) = some (r1,r2,r3,r4,r5):=by rw [if_neg (show ¬ (false = true) by decide)] at H;exact H
    clear H
    have H:=H1
    clear H1
    simp only [Option.some.injEq,Prod.mk.injEq] at H
    obtain⟨rfl,rfl,rfl,rfl,rfl⟩:=H
    try go_wp2
    replace HO_9:=am (Kd.R_drew HO_9.out)
    replace HO_10:=am (Kd.R_drew HO_10.out)
    replace HO_468000:=am (Kd.R_drew HO_468000.out)
    replace HO_469000:=am (Kd.R_drew HO_469000.out)
    replace BK455:=am (blk_drew BK455.out)
    replace BK456:=am (blk_drew BK456.out)
    replace BK457:=am (blk_drew BK457.out)
    replace BK458:=am (blk_drew BK458.out)
    replace BK467:=am (blk_drew BK467.out)
    replace BK468:=am (blk_drew BK468.out)
    replace HB:=am (below_drew1 HB.out)
    refine start_ (n:=5) (S:=fun w'=>w'.cell? ⟨gb457,0,none⟩ = some (.bool false)∧w'.cell? ⟨gb457,1,none⟩ = some (.slice none 0 0)∧w'.cell? ⟨gb458,0,none⟩ = some (.bool false)∧w'.cell? ⟨gb458,1,none⟩ = some (.slice none 0 0)) (ds:=[]) #[ff,ff,ff,ff,ff] (by kernel_rfl) rfl rfl ⟨(blk_cell BK457.out 0).trans rfl,(blk_cell BK457.out 1).trans rfl,(blk_cell BK458.out 0).trans rfl,(blk_cell BK458.out 1).trans rfl⟩ (fun hHeld=>?_)
    generalize wc.drew = w121 at HO_9 HO_10 HO_468000 HO_469000 BK455 BK456 BK457 BK458 BK467 BK468 HB hHeld ⊢
    refine take_ (i:=0) (N:=some 31) (v:=?_) (a':=?_) #[tt,ff,ff,ff,ff] rfl rfl (by kernel_rfl) (fun _ _ _ h=>h) (Or.inl ⟨by rfl,?_⟩) hHeld ?_ ?_
    rotate_left
    ·rintro w' ⟨s0,s1,s2,s3⟩
     go_simp
     with_reducible rfl
    rotate_left
    ·simp only [Act.put,sA,sZ,sS,i64_w,i32_w]
     rfl
    refine take_ (i:=1) (N:=some 32) (v:=?_) (a':=?_) #[tt,tt,ff,ff,ff] rfl rfl (by kernel_rfl) (fun _ _ _ h=>h) (Or.inl ⟨by rfl,?_⟩) hHeld ?_ ?_
    rotate_left
    ·rintro w' ⟨s0,s1,s2,s3⟩
     go_simp
     with_reducible rfl
    rotate_left
    ·simp only [Act.put,sA,sZ,sS,i64_w,i32_w]
     rfl
    refine one_ (i:=2) (N:=none) #[tt,tt,tt,ff,ff] rfl rfl (by kernel_rfl) (by decide) (fun K hK=>?_)
    have hs122 : w121.cell? ⟨gb457,0,none⟩ = some (.bool false):=(blk_cell BK457.out 0).trans rfl
    have hfs122:=blk_frozen BK457.out 0
    have hns122_0:=NB455_457.out
    have hns122_1:=NB456_457.out
    have hns122_3:=NB458_457.out
    have hns122_4:=NB467_457.out
    have hns122_5:=NB468_457.out
    have hms122_0:=NB457_455.out
    have hms122_1:=NB457_456.out
    have hms122_3:=NB457_458.out
    have hms122_4:=NB457_467.out
    have hms122_5:=NB457_468.out
    have hs123 : w121.cell? ⟨gb457,1,none⟩ = some (.slice none 0 0):=(blk_cell BK457.out 1).trans rfl
    have hfs123:=blk_frozen BK457.out 1
    have hns123_0:=NB455_457.out
    have hns123_1:=NB456_457.out
    have hns123_3:=NB458_457.out
    have hns123_4:=NB467_457.out
    have hns123_5:=NB468_457.out
    have hms123_0:=NB457_455.out
    have hms123_1:=NB457_456.out
    have hms123_3:=NB457_458.out
    have hms123_4:=NB457_467.out
    have hms123_5:=NB457_468.out
    refine skip_ (w1:=?_) (by rfl) rfl ?_ ?_
    rotate_left
    ·go_simp
     rfl
    refine hK.out _ _ ⟨(cell_put_back (cell_put_back hHeld.1 hHeld.1) (cell_put_back hHeld.2.1 hHeld.1)),(cell_put_back (cell_put_back hHeld.2.1 hHeld.1) (cell_put_back hHeld.2.1 hHeld.1)),((cell_far (p:=⟨gb457,_,none⟩) NB458_457.out _).trans (((cell_far (p:=⟨gb457,_,none⟩) NB458_457.out _).trans (hHeld.2.2.1)))),((cell_far (p:=⟨gb457,_,none⟩) NB458_457.out _).trans (((cell_far (p:=⟨gb457,_,none⟩) NB458_457.out _).trans (hHeld.2.2.2))))⟩ (fun hHeld=>?_)
    clear hK K
    refine one_ (i:=3) (N:=none) #[tt,tt,tt,tt,ff] rfl rfl (by kernel_rfl) (by decide) (fun K hK=>?_)
    have hs124 : w121.cell? ⟨gb458,0,none⟩ = some (.bool false):=(blk_cell BK458.out 0).trans rfl
    have hfs124:=blk_frozen BK458.out 0
    have hns124_0:=NB455_458.out
    have hns124_1:=NB456_458.out
    have hns124_2:=NB457_458.out
    have hns124_4:=NB467_458.out
    have hns124_5:=NB468_458.out
    have hms124_0:=NB458_455.out
    have hms124_1:=NB458_456.out
    have hms124_2:=NB458_457.out
    have hms124_4:=NB458_467.out
    have hms124_5:=NB458_468.out
    have hs125 : w121.cell? ⟨gb458,1,none⟩ = some (.slice none 0 0):=(blk_cell BK458.out 1).trans rfl
    have hfs125:=blk_frozen BK458.out 1
    have hns125_0:=NB455_458.out
    have hns125_1:=NB456_458.out
    have hns125_2:=NB457_458.out
    have hns125_4:=NB467_458.out
    have hns125_5:=NB468_458.out
    have hms125_0:=NB458_455.out
    have hms125_1:=NB458_456.out
    have hms125_2:=NB458_457.out
    have hms125_4:=NB458_467.out
    have hms125_5:=NB458_468.out
    refine skip_ (w1:=?_) (by rfl) rfl ?_ ?_
    rotate_left
    ·go_simp
     rfl
    refine hK.out _ _ ⟨((cell_far (p:=⟨gb458,_,none⟩) NB457_458.out _).trans (((cell_far (p:=⟨gb458,_,none⟩) NB457_458.out _).trans (hHeld.1)))),((cell_far (p:=⟨gb458,_,none⟩) NB457_458.out _).trans (((cell_far (p:=⟨gb458,_,none⟩) NB457_458.out _).trans (hHeld.2.1)))),(cell_put_back (cell_put_back hHeld.2.2.1 hHeld.2.2.1) (cell_put_back hHeld.2.2.2 hHeld.2.2.1)),(cell_put_back (cell_put_back hHeld.2.2.2 hHeld.2.2.1) (cell_put_back hHeld.2.2.2 hHeld.2.2.1))⟩ (fun hHeld=>?_)
    clear hK K
    refine pu (i:=4) (N:=some 6) #[tt,tt,tt,tt,tt] (by kernel_rfl) ?_
    refine done_ (by kernel_rfl) ?_
    try go_wp2
    refine bodyPost_ret (results_list (rs:=[.cell 4 25,.cell 5 25,.tmp 6]) rfl (by simp) (.cell gb457 25 #[.bool false,.slice none 0 0] (0,0) _ rfl (by refine zk ?_;refine blk_far ?_ NB457_458.out _;refine zk ?_;refine blk_far ?_ NB457_458.out _;refine zk ?_;refine blk_put (cs:=#[.bool false,.slice none 0 0]) ?_ 1 _ rfl;refine zk ?_;refine blk_put (cs:=#[.bool false,.slice none 0 0]) ?_ 0 _ rfl;refine zk ?_;exact BK457.out) Tryz.underlying25 rfl (by kernel_rfl) (.cell gb458 25 #[.bool false,.slice none 0 0] (0,0) _ rfl (by refine zk ?_;refine blk_put (cs:=#[.bool false,.slice none 0 0]) ?_ 1 _ rfl;refine zk ?_;refine blk_put (cs:=#[.bool false,.slice none 0 0]) ?_ 0 _ rfl;refine zk ?_;refine blk_far ?_ NB458_457.out _;refine zk ?_;refine blk_far ?_ NB458_457.out _;refine zk ?_;exact BK458.out) Tryz.underlying25 rfl (by kernel_rfl) (.tmp .nil)))) rfl ?_
    exact⟨_,_,zf,Kd.V_nil _ _ _ _ _,Kd.V_nil _ _ _ _ _,zb⟩

end Go.Proofs.YtcbohpmdeboeoaaGreatDoorRR.X

-- Printed by xprint.py, this session's own program (wip/tool), out of the translation. Lean checks it.
import Derived.Test.YtcbohpmdeboeoaaGreatDoorRRZ
import Derived.Test.YtcbohpmdeboeoaaGreatDoorRRX0
import Derived.Test.YtcbohpmdeboeoaaGreatDoorRRX2
namespace Go.Proofs.YtcbohpmdeboeoaaGreatDoorRR.X
open Go.Proofs.YtcbohpmdeboeoaaGreatDoorRR.Z
open Go.RowKit Go.Proofs.YtcbohpmdeboeoaaGreatDoorRRW.PrintWords Go.Proofs.YtcbohpmdeboeoaaGreatDoorRRW.PrintLast Go.Proofs.YtcbohpmdeboeoaaGreatDoorRRW.PrintMore
open List renaming setIfInBounds_toArray → sA, set_cons_zero → sZ, set_cons_succ → sS
open Aside0 renaming mk → am
open Bool renaming true → tt, false → ff
set_option maxHeartbeats 8000000
set_option maxRecDepth 100000
attribute [local go_sem] max2_int min2_int max_two min_two max_three min_three max_four min_four   -- for this text's walks alone
set_option linter.unusedVariables false
set_option linter.unusedSimpArgs false

/-! ### num_number_turned: function 50 -/
def num_number_turned.f (l0_0 : List Int) (a0_1 : Bool) : Option (List Int×Bool):=if a0_1 = true then(some (l0_0,false)) else((num_size_zero.f l0_0).bind fun t454=>(some (l0_0,!t454)))
def num_number_turned.T1 : Bool×List (List Nat×List Nat):=(true,[([],[]),([0],[0]),([],[]),([2],[2]),([3],[3]),([4],[4]),([5],[5]),([6,5],[5,6]),([7,5,5],[5,7]),([8,5],[5,8]),([5,9],[5,9]),([1,10],[1,10]),([11,8,0,1,2,3,4,5,6,7,8,9,10,11],[11])])
def num_number_turned.B1 : List Nat:=[0,1,0,4,12,28,60,124,252,508,1020,2047,4095]
theorem num_number_turned.tab1 : rtab .any (opsOf Tryz.f50 1) = num_number_turned.T1:=by kernel_rfl
theorem num_number_turned.bits1 : waitsOk num_number_turned.T1.2 num_number_turned.B1 = true:=by kernel_rfl
theorem num_number_turned.calls (P0_0_ : Nat→Prop) (A0_0 : Option Addr) (c0_0 : Nat) (l0_0 : List Int) (a0_1 : Bool) (r1 : List Int) (r2 : Bool) (w : World) (hs0_0 : Kd.V (Kd.int .u32) 60 w w.heap.size (fun k_=>P0_0_ k_) (.slice A0_0 l0_0.length c0_0) l0_0) (h : num_number_turned.f l0_0 a0_1 = some (r1,r2)) :
  Calls Tryz.prog 50 #[.agg #[.slice A0_0 l0_0.length c0_0,.bool a0_1]] w fun e w'=>∃ v0_ : Value,e = .returned (.agg #[v0_,.bool r2])∧Kd.V (Kd.int .u32) 60 w' w.heap.size (fun k_=>(P0_0_ k_∨w.heap.size≤k_)) v0_ r1∧Below w.heap.size w w':=by
 have hu54:=Tryz.underlying54
 have hu52:=Tryz.underlying52
 have HO0_0:=am (show Kd.V (Kd.int .u32) 60 w w.heap.size (fun k_=>(P0_0_ k_∨w.heap.size≤k_)) (.slice A0_0 l0_0.length c0_0) l0_0 from Kd.V_mono hs0_0 (fun k_ hk=>.inl hk))
 have HB:=am (Below.refl w.heap.size w)
 have H : (if a0_1 = true then(some (l0_0,false)) else((num_size_zero.f l0_0).bind fun t454=>(some (l0_0,!t454)))) = some (r1,r2):=h
 clear h
 by_cases c2 : a0_1 = true
 ·subst c2
  have H1 : (some (l0_0,false)) = some (r1,r2):=by rw [if_pos rfl] at H;exact H
  clear H
  have H:=H1
  clear H1
  simp only [Option.some.injEq,Prod.mk.injEq] at H
  obtain⟨rfl,rfl⟩:=H
  go_enter Tryz.func50,Tryz.ntmps50
  try go_wp2_with (first |((with_reducible refine gate_dst (N:=1) rfl ?_);refine box_event ?hg (N:=1) ?hd (cs:=#[.slice A0_0 l0_0.length c0_0,.bool true]) (t:=54) ?hr ?_;(case hd=>rfl);(case hg=>rfl);(case hr=>exact zh);intro gb452 hg w3 hbox hb;replace HO0_0:=vB gb452 HO0_0 hg hb;have BK452:=am (hbox);have GW452:=gw w hg;have GE452:=gw w hg;replace HB:=am (below_step zb hb);clear hb hbox hg) |((with_reducible refine gate_dst (N:=2) rfl ?_);refine box_event ?hg (N:=2) ?hd (cs:=#[.slice none 0 0,.bool false]) (t:=54) ?hr ?_;(case hd=>rfl);(case hg=>rfl);(case hr=>exact zh);intro gb453 hg w4 hbox hb;replace HO0_0:=vB gb453 HO0_0 hg hb;have BK453:=am (hbox);have GW453:=gw w hg;have GE453:=gw w hg;replace HB:=am (below_step zb hb);have NB452_453:=nl BK452 hg;have NB453_452:=nr BK452 hg;replace BK452:=kb BK452 hb;clear hb hbox hg))
  replace HO0_0:=am (Kd.V_drew HO0_0.out)
  replace BK452:=am (blk_drew BK452.out)
  replace BK453:=am (blk_drew BK453.out)
  replace HB:=am (below_drew1 HB.out)
  refine start_ (n:=13) (S:=fun w'=>w'.cell? ⟨gb452,0,none⟩ = some (.slice A0_0 l0_0.length c0_0)∧w'.cell? ⟨gb452,1,none⟩ = some (.bool true)) (ds:=[]) #[ff,ff,ff,ff,ff,ff,ff,ff,ff,ff,ff,ff,ff] (by kernel_rfl) rfl rfl ⟨(blk_cell BK452.out 0).trans rfl,(blk_cell BK452.out 1).trans rfl⟩ (fun hHeld=>?_);refine with_tabW num_number_turned.tab1 num_number_turned.bits1 (fun HT_ HW_=>?_)
  generalize w4.drew = w5 at HO0_0 BK452 BK453 HB hHeld ⊢
  refine pu (i:=0) (N:=some 3) #[tt,ff,ff,ff,ff,ff,ff,ff,ff,ff,ff,ff,ff] (any_of HT_.out (by kernel_rfl)) ?_
  refine pu (i:=2) (N:=some 5) #[tt,ff,tt,ff,ff,ff,ff,ff,ff,ff,ff,ff,ff] (any_of HT_.out (by kernel_rfl)) ?_
  refine take_ (i:=1) (N:=some 4) (v:=?_) (a':=?_) #[tt,tt,tt,ff,ff,ff,ff,ff,ff,ff,ff,ff,ff] rfl rfl (take_ofW HT_.out HW_.out (by kernel_rfl)) (fun _ _ _ h=>h) (Or.inl ⟨by rfl,?_⟩) hHeld ?_ ?_
  rotate_left
  ·rintro w' ⟨s0,s1⟩
   go_simp
   with_reducible rfl
  rotate_left
  ·simp only [Act.put,sA,sZ,sS,i64_w,i32_w]
   rfl
  refine take_ (i:=3) (N:=some 6) (v:=?_) (a':=?_) #[tt,tt,tt,tt,ff,ff,ff,ff,ff,ff,ff,ff,ff] rfl rfl (take_ofW HT_.out HW_.out (by kernel_rfl)) (fun _ _ _ h=>h) (Or.inl ⟨by rfl,?_⟩) hHeld ?_ ?_
  rotate_left
  ·rintro w' ⟨s0,s1⟩
   go_simp
   with_reducible rfl
  rotate_left
  ·simp only [Act.put,sA,sZ,sS,i64_w,i32_w]
   rfl
  refine pu (i:=4) (N:=some 7) #[tt,tt,tt,tt,tt,ff,ff,ff,ff,ff,ff,ff,ff] (any_of HT_.out (by kernel_rfl)) ?_
  refine pu (i:=5) (N:=some 8) #[tt,tt,tt,tt,tt,tt,ff,ff,ff,ff,ff,ff,ff] (any_of HT_.out (by kernel_rfl)) ?_
  refine pure_ (i:=6) (N:=some 9) (v:=undef) (a':=?_) #[tt,tt,tt,tt,tt,tt,tt,ff,ff,ff,ff,ff,ff] rfl rfl (any_of HT_.out (by kernel_rfl)) (fun _ _ _ h=>h) (Or.inr ⟨by rfl,rfl⟩) ?_ ?_
  rotate_left
  ·simp only [Act.put,sA,sZ,sS,i64_w,i32_w]
   rfl
  refine pure_ (i:=7) (N:=some 10) (v:=undef) (a':=?_) #[tt,tt,tt,tt,tt,tt,tt,tt,ff,ff,ff,ff,ff] rfl rfl (any_of HT_.out (by kernel_rfl)) (fun _ _ _ h=>h) (Or.inr ⟨by rfl,rfl⟩) ?_ ?_
  rotate_left
  ·simp only [Act.put,sA,sZ,sS,i64_w,i32_w]
   rfl
  refine pure_ (i:=8) (N:=some 11) (v:=undef) (a':=?_) #[tt,tt,tt,tt,tt,tt,tt,tt,tt,ff,ff,ff,ff] rfl rfl (any_of HT_.out (by kernel_rfl)) (fun _ _ _ h=>h) (Or.inr ⟨by rfl,rfl⟩) ?_ ?_
  rotate_left
  ·simp only [Act.put,sA,sZ,sS,i64_w,i32_w]
   rfl
  refine pure_ (i:=9) (N:=some 12) (v:=undef) (a':=?_) #[tt,tt,tt,tt,tt,tt,tt,tt,tt,tt,ff,ff,ff] rfl rfl (any_of HT_.out (by kernel_rfl)) (fun _ _ _ h=>h) (Or.inr ⟨by rfl,rfl⟩) ?_ ?_
  rotate_left
  ·simp only [Act.put,sA,sZ,sS,i64_w,i32_w]
   rfl
  refine pu (i:=10) (N:=some 13) #[tt,tt,tt,tt,tt,tt,tt,tt,tt,tt,tt,ff,ff] (any_of HT_.out (by kernel_rfl)) ?_
  refine pu (i:=11) (N:=some 14) #[tt,tt,tt,tt,tt,tt,tt,tt,tt,tt,tt,tt,ff] (any_of HT_.out (by kernel_rfl)) ?_
  refine one_ (i:=12) (N:=none) #[tt,tt,tt,tt,tt,tt,tt,tt,tt,tt,tt,tt,tt] rfl rfl (one_of HT_.out (by kernel_rfl)) (by decide) (fun K hK=>?_)
  have hs6 : w5.cell? ⟨gb453,0,none⟩ = some (.slice none 0 0):=(blk_cell BK453.out 0).trans rfl
  have hfs6:=blk_frozen BK453.out 0
  have hns6_0:=NB452_453.out
  have hms6_0:=NB453_452.out
  have hs7 : w5.cell? ⟨gb453,1,none⟩ = some (.bool false):=(blk_cell BK453.out 1).trans rfl
  have hfs7:=blk_frozen BK453.out 1
  have hns7_0:=NB452_453.out
  have hms7_0:=NB453_452.out
  refine skip_ (w1:=?_) (by rfl) rfl ?_ ?_
  rotate_left
  ·go_simp
   rfl
  refine hK.out _ _ ⟨((cell_far (p:=⟨gb453,_,none⟩) NB452_453.out _).trans (((cell_far (p:=⟨gb453,_,none⟩) NB452_453.out _).trans (hHeld.1)))),((cell_far (p:=⟨gb453,_,none⟩) NB452_453.out _).trans (((cell_far (p:=⟨gb453,_,none⟩) NB452_453.out _).trans (hHeld.2))))⟩ (fun hHeld=>?_)
  clear hK K
  refine done_ (done_of HT_.out (by kernel_rfl)) ?_
  try go_wp2
  refine bodyPost_ret (results_cell_row rfl _ _ gb453 54 #[.slice A0_0 l0_0.length c0_0,.bool false] (0,0) _ rfl (by refine zk ?_;refine blk_put (cs:=#[.slice A0_0 l0_0.length c0_0,.bool false]) ?_ 1 _ rfl;refine zk ?_;refine blk_put (cs:=#[.slice none 0 0,.bool false]) ?_ 0 _ rfl;refine zk ?_;exact BK453.out) Tryz.underlying54 rfl (by kernel_rfl)) rfl ?_
  exact⟨_,zf,by refine zV ?_;exact Kd.V_mono (Kd.V_far (p:=⟨gb453,1,none⟩) (Kd.V_far (p:=⟨gb453,0,none⟩) (Kd.V_mono HO0_0.out (fun k_ hk=>(⟨hk,hk.2⟩ : _∧k_≠gb453))) (fun _ hk=>hk.2) (.slice A0_0 l0_0.length c0_0)) (fun _ hk=>hk.2) (.bool false)) (fun _ hk=>hk.1.1.1),zb⟩
 ·replace c2:=Bool.eq_false_iff.mpr c2
  subst c2
  have H1 : ((num_size_zero.f l0_0).bind fun t454=>(some (l0_0,!t454))) = some (r1,r2):=by rw [if_neg (show ¬ (false = true) by decide)] at H;exact H
  clear H
  have H:=H1
  clear H1
  replace H:=Option.bind_eq_some_iff.mp H
  obtain⟨t454,A80,H⟩:=H
  try dsimp only at H
  have A8:=am A80
  clear A80
  simp only [Option.some.injEq,Prod.mk.injEq] at H
  obtain⟨rfl,rfl⟩:=H
  go_enter Tryz.func50,Tryz.ntmps50
  try go_wp2_with (first |((with_reducible refine gate_dst (N:=1) rfl ?_);refine box_event ?hg (N:=1) ?hd (cs:=#[.slice A0_0 l0_0.length c0_0,.bool false]) (t:=54) ?hr ?_;(case hd=>rfl);(case hg=>rfl);(case hr=>exact zh);intro gb452 hg w9 hbox hb;replace HO0_0:=vB gb452 HO0_0 hg hb;have BK452:=am (hbox);have GW452:=gw w hg;have GE452:=gw w hg;replace HB:=am (below_step zb hb);clear hb hbox hg) |((with_reducible refine gate_dst (N:=2) rfl ?_);refine box_event ?hg (N:=2) ?hd (cs:=#[.slice none 0 0,.bool false]) (t:=54) ?hr ?_;(case hd=>rfl);(case hg=>rfl);(case hr=>exact zh);intro gb453 hg w10 hbox hb;replace HO0_0:=vB gb453 HO0_0 hg hb;have BK453:=am (hbox);have GW453:=gw w hg;have GE453:=gw w hg;replace HB:=am (below_step zb hb);have NB452_453:=nl BK452 hg;have NB453_452:=nr BK452 hg;replace BK452:=kb BK452 hb;clear hb hbox hg))
  replace HO0_0:=am (Kd.V_drew HO0_0.out)
  replace BK452:=am (blk_drew BK452.out)
  replace BK453:=am (blk_drew BK453.out)
  replace HB:=am (below_drew1 HB.out)
  refine start_ (n:=13) (S:=fun w'=>w'.cell? ⟨gb452,0,none⟩ = some (.slice A0_0 l0_0.length c0_0)∧w'.cell? ⟨gb452,1,none⟩ = some (.bool false)) (ds:=[]) #[ff,ff,ff,ff,ff,ff,ff,ff,ff,ff,ff,ff,ff] (by kernel_rfl) rfl rfl ⟨(blk_cell BK452.out 0).trans rfl,(blk_cell BK452.out 1).trans rfl⟩ (fun hHeld=>?_);refine with_tabW num_number_turned.tab1 num_number_turned.bits1 (fun HT_ HW_=>?_)
  generalize w10.drew = w11 at HO0_0 BK452 BK453 HB hHeld ⊢
  refine pu (i:=0) (N:=some 3) #[tt,ff,ff,ff,ff,ff,ff,ff,ff,ff,ff,ff,ff] (any_of HT_.out (by kernel_rfl)) ?_
  refine pu (i:=2) (N:=some 5) #[tt,ff,tt,ff,ff,ff,ff,ff,ff,ff,ff,ff,ff] (any_of HT_.out (by kernel_rfl)) ?_
  refine take_ (i:=1) (N:=some 4) (v:=?_) (a':=?_) #[tt,tt,tt,ff,ff,ff,ff,ff,ff,ff,ff,ff,ff] rfl rfl (take_ofW HT_.out HW_.out (by kernel_rfl)) (fun _ _ _ h=>h) (Or.inl ⟨by rfl,?_⟩) hHeld ?_ ?_
  rotate_left
  ·rintro w' ⟨s0,s1⟩
   go_simp
   with_reducible rfl
  rotate_left
  ·simp only [Act.put,sA,sZ,sS,i64_w,i32_w]
   rfl
  refine take_ (i:=3) (N:=some 6) (v:=?_) (a':=?_) #[tt,tt,tt,tt,ff,ff,ff,ff,ff,ff,ff,ff,ff] rfl rfl (take_ofW HT_.out HW_.out (by kernel_rfl)) (fun _ _ _ h=>h) (Or.inl ⟨by rfl,?_⟩) hHeld ?_ ?_
  rotate_left
  ·rintro w' ⟨s0,s1⟩
   go_simp
   with_reducible rfl
  rotate_left
  ·simp only [Act.put,sA,sZ,sS,i64_w,i32_w]
   rfl
  refine pu (i:=4) (N:=some 7) #[tt,tt,tt,tt,tt,ff,ff,ff,ff,ff,ff,ff,ff] (any_of HT_.out (by kernel_rfl)) ?_
  refine pu (i:=5) (N:=some 8) #[tt,tt,tt,tt,tt,tt,ff,ff,ff,ff,ff,ff,ff] (any_of HT_.out (by kernel_rfl)) ?_
  refine pu (i:=6) (N:=some 9) #[tt,tt,tt,tt,tt,tt,tt,ff,ff,ff,ff,ff,ff] (any_of HT_.out (by kernel_rfl)) ?_
  refine take_ (i:=7) (N:=some 10) (v:=?_) (a':=?_) #[tt,tt,tt,tt,tt,tt,tt,tt,ff,ff,ff,ff,ff] rfl rfl (take_ofW HT_.out HW_.out (by kernel_rfl)) (fun _ _ _ h=>h) (Or.inl ⟨by rfl,?_⟩) hHeld ?_ ?_
  rotate_left
  ·rintro w' ⟨s0,s1⟩
   go_simp
   with_reducible rfl
  rotate_left
  ·simp only [Act.put,sA,sZ,sS,i64_w,i32_w]
   rfl
  refine one_ (i:=8) (N:=some 11) #[tt,tt,tt,tt,tt,tt,tt,tt,tt,ff,ff,ff,ff] rfl rfl (one_of HT_.out (by kernel_rfl)) (by decide) (fun K hK=>?_)
  refine goes_ Tryz.func44 (by kernel_rfl) rfl #[.agg #[.slice A0_0 l0_0.length c0_0]] (by rfl) rfl rfl zl ?_
  with_reducible refine(num_size_zero.calls _ _ l0_0 t454 _ ?side1 ?side2 A8.out).mono ?_
  (case side1=>exact zC (Kd.V_reads' HO0_0.out).2.2)
  (case side2=>exact(Kd.V_reads' HO0_0.out).2.1)
  rintro e w12 ⟨rfl,hb⟩
  refine⟨_,rfl,?_⟩
  replace HO0_0:=vb HO0_0 hb
  replace BK452:=kb BK452 hb
  replace BK453:=kb BK453 hb
  replace HB:=am (below_step zb hb)
  (try clear hb)
  (try clear hb2)
  (try clear hk)
  (try clear hi)
  refine hK.out _ _ ⟨(blk_cell BK452.out 0).trans rfl,(blk_cell BK452.out 1).trans rfl⟩ (fun hHeld=>?_)
  clear hK K
  refine norm_ (a':=?_) ?_ ?_
  rotate_left
  ·show Act.put _ (some 11) _ = _
   simp only [Act.put,sA,sZ,sS,i64_w,i32_w]
   rfl
  refine pu (i:=9) (N:=some 12) #[tt,tt,tt,tt,tt,tt,tt,tt,tt,tt,ff,ff,ff] (any_of HT_.out (by kernel_rfl)) ?_
  refine pu (i:=10) (N:=some 13) #[tt,tt,tt,tt,tt,tt,tt,tt,tt,tt,tt,ff,ff] (any_of HT_.out (by kernel_rfl)) ?_
  refine pu (i:=11) (N:=some 14) #[tt,tt,tt,tt,tt,tt,tt,tt,tt,tt,tt,tt,ff] (any_of HT_.out (by kernel_rfl)) ?_
  refine one_ (i:=12) (N:=none) #[tt,tt,tt,tt,tt,tt,tt,tt,tt,tt,tt,tt,tt] rfl rfl (one_of HT_.out (by kernel_rfl)) (by decide) (fun K hK=>?_)
  have hs13 : w12.cell? ⟨gb453,0,none⟩ = some (.slice none 0 0):=(blk_cell BK453.out 0).trans rfl
  have hfs13:=blk_frozen BK453.out 0
  have hns13_0:=NB452_453.out
  have hms13_0:=NB453_452.out
  have hs14 : w12.cell? ⟨gb453,1,none⟩ = some (.bool false):=(blk_cell BK453.out 1).trans rfl
  have hfs14:=blk_frozen BK453.out 1
  have hns14_0:=NB452_453.out
  have hms14_0:=NB453_452.out
  refine skip_ (w1:=?_) (by rfl) rfl ?_ ?_
  rotate_left
  ·go_simp
   rfl
  refine hK.out _ _ ⟨((cell_far (p:=⟨gb453,_,none⟩) NB452_453.out _).trans (((cell_far (p:=⟨gb453,_,none⟩) NB452_453.out _).trans (hHeld.1)))),((cell_far (p:=⟨gb453,_,none⟩) NB452_453.out _).trans (((cell_far (p:=⟨gb453,_,none⟩) NB452_453.out _).trans (hHeld.2))))⟩ (fun hHeld=>?_)
  clear hK K
  refine done_ (done_of HT_.out (by kernel_rfl)) ?_
  try go_wp2
  refine bodyPost_ret (results_cell_row rfl _ _ gb453 54 #[.slice A0_0 l0_0.length c0_0,.bool (!t454)] (0,0) _ rfl (by refine zk ?_;refine blk_put (cs:=#[.slice A0_0 l0_0.length c0_0,.bool false]) ?_ 1 _ rfl;refine zk ?_;refine blk_put (cs:=#[.slice none 0 0,.bool false]) ?_ 0 _ rfl;refine zk ?_;exact BK453.out) Tryz.underlying54 rfl (by kernel_rfl)) rfl ?_
  exact⟨_,zf,by refine zV ?_;exact Kd.V_mono (Kd.V_far (p:=⟨gb453,1,none⟩) (Kd.V_far (p:=⟨gb453,0,none⟩) (Kd.V_mono HO0_0.out (fun k_ hk=>(⟨hk,hk.2⟩ : _∧k_≠gb453))) (fun _ hk=>hk.2) (.slice A0_0 l0_0.length c0_0)) (fun _ hk=>hk.2) (.bool (!t454))) (fun _ hk=>hk.1.1.1),zb⟩

end Go.Proofs.YtcbohpmdeboeoaaGreatDoorRR.X

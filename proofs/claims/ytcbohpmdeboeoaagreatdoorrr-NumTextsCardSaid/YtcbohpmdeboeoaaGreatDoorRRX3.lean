-- Printed by xprint.py, this session's own program (wip/tool), out of the translation. Lean checks it.
import Derived.Test.YtcbohpmdeboeoaaGreatDoorRRZ
import Derived.Test.YtcbohpmdeboeoaaGreatDoorRRX0
import Derived.Test.YtcbohpmdeboeoaaGreatDoorRRX1
import Derived.Test.YtcbohpmdeboeoaaGreatDoorRRX2
namespace Go.Proofs.YtcbohpmdeboeoaaGreatDoorRR.X
open Go.Proofs.YtcbohpmdeboeoaaGreatDoorRR.Z
open Go.RowKit Go.Proofs.YtcbohpmdeboeoaaGreatDoorRRW.PrintWords Go.Proofs.YtcbohpmdeboeoaaGreatDoorRRW.PrintLast Go.Proofs.YtcbohpmdeboeoaaGreatDoorRRW.PrintMore
open List renaming setIfInBounds_toArray → sA, set_cons_zero → sZ, set_cons_succ → sS
open Aside0 renaming mk → am
open Bool renaming true → tt, false → ff
set_option maxHeartbeats 8000000
set_option maxRecDepth 100000
attribute [local go_sem] max2_int min2_int max_two min_two max_three min_three max_four min_four   -- for this text's walks alone
set_option linter.unusedVariables false
set_option linter.unusedSimpArgs false

/-! ### num_made: function 29 -/
def num_made.f (k : Nat) (l0 : List Int) (a1 : Bool) : Option (List Int×Bool):=(nat_Trim.f k l0).bind fun t157=>(if a1 = true then((num_size_zero.f t157).bind fun t161=>(some (t157,!t161))) else(some (t157,false)))
def num_made.T2 : Bool×List (List Nat×List Nat):=(true,[([],[]),([],[]),([1],[1]),([2],[2]),([3,2,2],[2,3]),([4,2],[2,4]),([2,5],[2,5]),([0,6],[0,6]),([7,4,0,1,2,3,4,5,6,7],[7])])
def num_made.B2 : List Nat:=[0,0,2,6,14,30,62,127,255]
theorem num_made.tab2 : rtab .any (opsOf Tryz.f29 2) = num_made.T2:=by kernel_rfl
theorem num_made.bits2 : waitsOk num_made.T2.2 num_made.B2 = true:=by kernel_rfl
theorem num_made.calls (k : Nat) (A0 : Option Addr) (c0 : Nat) (l0 : List Int) (a1 : Bool) (r1 : List Int) (r2 : Bool) (w : World) (hr0 : Kd.C (Kd.int .u32) w A0 l0.length l0) (hc0 : l0.length≤c0) (h : num_made.f k l0 a1 = some (r1,r2)) :
  Calls Tryz.prog 29 #[.slice A0 l0.length c0,.bool a1] w fun e w'=>∃ v0_ : Value,e = .returned (.agg #[v0_,.bool r2])∧Kd.R (Kd.int .u32) 60 w' w.heap.size (fun _=>True) v0_ r1∧Below w.heap.size w w':=by
 have hu54:=Tryz.underlying54
 have hu52:=Tryz.underlying52
 have HR0:=am hr0
 have HC0:=am hc0
 clear hr0 hc0
 have HB:=am (Below.refl w.heap.size w)
 have H : ((nat_Trim.f k l0).bind fun t157=>(if a1 = true then((num_size_zero.f t157).bind fun t161=>(some (t157,!t161))) else(some (t157,false)))) = some (r1,r2):=h
 clear h
 replace H:=Option.bind_eq_some_iff.mp H
 obtain⟨t157,A30,H⟩:=H
 try dsimp only at H
 have A3:=am A30
 clear A30
 by_cases c4 : a1 = true
 ·subst c4
  have H1 : ((num_size_zero.f t157).bind fun t161=>(some (t157,!t161))) = some (r1,r2):=by rw [if_pos rfl] at H;exact H
  clear H
  have H:=H1
  clear H1
  replace H:=Option.bind_eq_some_iff.mp H
  obtain⟨t161,A50,H⟩:=H
  try dsimp only at H
  have A5:=am A50
  clear A50
  simp only [Option.some.injEq,Prod.mk.injEq] at H
  obtain⟨rfl,rfl⟩:=H
  go_enter Tryz.func29,Tryz.ntmps29
  try go_wp2_with (first |((with_reducible refine gate_dst (N:=4) rfl ?_);refine box_event ?hg (N:=4) ?hd (cs:=#[.slice none 0 0,.bool false]) (t:=54) ?hr ?_;(case hd=>rfl);(case hg=>rfl);(case hr=>exact zh);intro gb156 hg w6 hbox hb;have BK156:=am (hbox);have GW156:=gw w hg;have GE156:=gw w hg;replace HB:=am (below_step zb hb);clear hb hbox hg) |((with_reducible refine gate_callee (f:=59) rfl ?_);refine goesL_ (some 7) rfl rfl Tryz.func59 (by kernel_rfl) rfl #[.slice A0 l0.length c0] rfl zl ?_;(with_reducible refine(nat_Trim.calls k _ _ l0 t157 _ ?side1 ?side2 A3.out).mono ?_);(case side1=>repeat (first | exact(Kd.C_below HR0.out HB.out) |(with_reducible refine Kd.C_alloc ?_ _) |(with_reducible refine Kd.C_drewN ?_ _) |(with_reducible refine Kd.C_drew ?_)));(case side2=>exact HC0.out);rintro e w7 ⟨v158,rfl,ho0,hb⟩;refine⟨_,rfl,?_⟩;have HO159:=am (Kd.R_lower ho0 (below_size zb));replace BK156:=kb BK156 hb;replace HB:=am (below_step zb hb);(try clear hb);(try clear ho0);obtain⟨Ao8,co8,eo8⟩:=Kd.R_slice HO159.out;subst eo8) |((with_reducible refine gate_dst (N:=5) rfl ?_);refine box_event ?hg (N:=5) ?hd (cs:=#[.slice none 0 0]) (t:=52) ?hr ?_;(case hd=>rfl);(case hg=>rfl);(case hr=>exact zh);intro gb160 hg w9 hbox hb;replace HO159:=rb HO159 hb;have BK160:=am (hbox);have GW160:=gw w hg;have GE160:=gw w hg;replace HB:=am (below_step zb hb);have NB156_160:=nl BK156 hg;have NB160_156:=nr BK156 hg;replace BK156:=kb BK156 hb;clear hb hbox hg;have hnb10:=NB160_156.out;have hnc10:=NB156_160.out;have hcz11_0 : w9.cell? ⟨gb160,0,none⟩ = some (.slice none 0 0):=(blk_cell BK160.out 0).trans rfl;have hfz11_0:=blk_frozen BK160.out 0))
  have n0_ : Aside0 (Kd.R (Kd.int .u32) 60 (w9.setCell ⟨gb160,0,none⟩ (.slice Ao8 t157.length co8)) w.heap.size (fun _=>True) (.slice Ao8 t157.length co8) t157):=⟨by refine zR ?_;exact Kd.R_mono (Kd.R_far (p:=⟨gb160,0,none⟩) (Kd.R_types HO159.out BK160.out (by decide)) (fun _ hk=>hk.2) (.slice Ao8 t157.length co8)) (fun _ hk=>trivial)⟩
  have n1_ : Aside0 ((w9.setCell ⟨gb160,0,none⟩ (.slice Ao8 t157.length co8)).heap[gb156]? = some (.cells #[.slice none 0 0,.bool false] 54 (0,0))):=⟨by refine zk ?_;refine blk_far ?_ NB156_160.out _;refine zk ?_;exact BK156.out⟩
  have n2_ : Aside0 ((w9.setCell ⟨gb160,0,none⟩ (.slice Ao8 t157.length co8)).heap[gb160]? = some (.cells #[.slice Ao8 t157.length co8] 52 (0,0))):=⟨by refine zk ?_;refine blk_put (cs:=#[.slice none 0 0]) ?_ 0 _ rfl;refine zk ?_;exact BK160.out⟩
  have n3_ : Aside0 (Below w.heap.size w (w9.setCell ⟨gb160,0,none⟩ (.slice Ao8 t157.length co8))):=⟨zb⟩
  (try clear HO159)
  (try clear BK156)
  (try clear BK160)
  (try clear HB)
  generalize (w9.setCell ⟨gb160,0,none⟩ (.slice Ao8 t157.length co8)) = w12 at n0_ n1_ n2_ n3_ ⊢
  have HO159:=n0_
  have BK156:=n1_
  have BK160:=n2_
  have HB:=n3_
  clear n0_ n1_ n2_ n3_
  replace HO159:=am (Kd.R_drew HO159.out)
  replace BK156:=am (blk_drew BK156.out)
  replace BK160:=am (blk_drew BK160.out)
  replace HB:=am (below_drew1 HB.out)
  refine start_ (n:=9) (S:=fun w'=>w'.cell? ⟨gb160,0,none⟩ = some (.slice Ao8 t157.length co8)) (ds:=[]) #[ff,ff,ff,ff,ff,ff,ff,ff,ff] (by kernel_rfl) rfl rfl ((blk_cell BK160.out 0).trans rfl) (fun hHeld=>?_);refine with_tabW num_made.tab2 num_made.bits2 (fun HT_ HW_=>?_)
  generalize w12.drew = w13 at HO159 BK156 BK160 HB hHeld ⊢
  refine pu (i:=1) (N:=some 10) #[ff,tt,ff,ff,ff,ff,ff,ff,ff] (any_of HT_.out (by kernel_rfl)) ?_
  refine pu (i:=2) (N:=some 11) #[ff,tt,tt,ff,ff,ff,ff,ff,ff] (any_of HT_.out (by kernel_rfl)) ?_
  refine take_ (i:=0) (N:=some 9) (v:=?_) (a':=?_) #[tt,tt,tt,ff,ff,ff,ff,ff,ff] rfl rfl (take_ofW HT_.out HW_.out (by kernel_rfl)) (fun _ _ _ h=>h) (Or.inl ⟨by rfl,?_⟩) hHeld ?_ ?_
  rotate_left
  ·intro w' s0
   go_simp
   with_reducible rfl
  rotate_left
  ·simp only [Act.put,sA,sZ,sS,i64_w,i32_w]
   rfl
  refine take_ (i:=3) (N:=some 12) (v:=?_) (a':=?_) #[tt,tt,tt,tt,ff,ff,ff,ff,ff] rfl rfl (take_ofW HT_.out HW_.out (by kernel_rfl)) (fun _ _ _ h=>h) (Or.inl ⟨by rfl,?_⟩) hHeld ?_ ?_
  rotate_left
  ·intro w' s0
   go_simp
   with_reducible rfl
  rotate_left
  ·simp only [Act.put,sA,sZ,sS,i64_w,i32_w]
   rfl
  refine one_ (i:=4) (N:=some 13) #[tt,tt,tt,tt,tt,ff,ff,ff,ff] rfl rfl (one_of HT_.out (by kernel_rfl)) (by decide) (fun K hK=>?_)
  refine goes_ Tryz.func44 (by kernel_rfl) rfl #[.agg #[.slice Ao8 t157.length co8]] (by rfl) rfl rfl zl ?_
  with_reducible refine(num_size_zero.calls _ _ t157 t161 _ ?side1 ?side2 A5.out).mono ?_
  (case side1=>exact zC (Kd.R_reads' HO159.out).2.2)
  (case side2=>exact(Kd.R_reads' HO159.out).2.1)
  rintro e w14 ⟨rfl,hb⟩
  refine⟨_,rfl,?_⟩
  replace HO159:=rb HO159 hb
  replace BK156:=kb BK156 hb
  replace BK160:=kb BK160 hb
  replace HB:=am (below_step zb hb)
  (try clear hb)
  (try clear hb2)
  (try clear hk)
  (try clear hi)
  refine hK.out _ _ ((blk_cell BK160.out 0).trans rfl) (fun hHeld=>?_)
  clear hK K
  refine norm_ (a':=?_) ?_ ?_
  rotate_left
  ·show Act.put _ (some 13) _ = _
   simp only [Act.put,sA,sZ,sS,i64_w,i32_w]
   rfl
  refine pu (i:=5) (N:=some 14) #[tt,tt,tt,tt,tt,tt,ff,ff,ff] (any_of HT_.out (by kernel_rfl)) ?_
  refine pu (i:=6) (N:=some 15) #[tt,tt,tt,tt,tt,tt,tt,ff,ff] (any_of HT_.out (by kernel_rfl)) ?_
  refine pu (i:=7) (N:=some 16) #[tt,tt,tt,tt,tt,tt,tt,tt,ff] (any_of HT_.out (by kernel_rfl)) ?_
  refine one_ (i:=8) (N:=none) #[tt,tt,tt,tt,tt,tt,tt,tt,tt] rfl rfl (one_of HT_.out (by kernel_rfl)) (by decide) (fun K hK=>?_)
  have hs15 : w14.cell? ⟨gb156,0,none⟩ = some (.slice none 0 0):=(blk_cell BK156.out 0).trans rfl
  have hfs15:=blk_frozen BK156.out 0
  have hns15_1:=NB160_156.out
  have hms15_1:=NB156_160.out
  have hs16 : w14.cell? ⟨gb156,1,none⟩ = some (.bool false):=(blk_cell BK156.out 1).trans rfl
  have hfs16:=blk_frozen BK156.out 1
  have hns16_1:=NB160_156.out
  have hms16_1:=NB156_160.out
  refine skip_ (w1:=?_) (by rfl) rfl ?_ ?_
  rotate_left
  ·go_simp
   rfl
  refine hK.out _ _ (((cell_far (p:=⟨gb156,_,none⟩) NB160_156.out _).trans (((cell_far (p:=⟨gb156,_,none⟩) NB160_156.out _).trans (hHeld))))) (fun hHeld=>?_)
  clear hK K
  refine done_ (done_of HT_.out (by kernel_rfl)) ?_
  try go_wp2
  refine bodyPost_ret (results_cell_row rfl _ _ gb156 54 #[.slice Ao8 t157.length co8,.bool (!t161)] (0,0) _ rfl (by refine zk ?_;refine blk_put (cs:=#[.slice Ao8 t157.length co8,.bool false]) ?_ 1 _ rfl;refine zk ?_;refine blk_put (cs:=#[.slice none 0 0,.bool false]) ?_ 0 _ rfl;refine zk ?_;exact BK156.out) Tryz.underlying54 rfl (by kernel_rfl)) rfl ?_
  exact⟨_,zf,by refine zR ?_;exact Kd.R_mono (Kd.R_far (p:=⟨gb156,1,none⟩) (Kd.R_far (p:=⟨gb156,0,none⟩) (Kd.R_types HO159.out BK156.out (by decide)) (fun _ hk=>hk.2) (.slice Ao8 t157.length co8)) (fun _ hk=>hk.2) (.bool (!t161))) (fun _ hk=>trivial),zb⟩
 ·replace c4:=Bool.eq_false_iff.mpr c4
  subst c4
  have H1 : (some (t157,false)) = some (r1,r2):=by rw [if_neg (show ¬ (false = true) by decide)] at H;exact H
  clear H
  have H:=H1
  clear H1
  simp only [Option.some.injEq,Prod.mk.injEq] at H
  obtain⟨rfl,rfl⟩:=H
  go_enter Tryz.func29,Tryz.ntmps29
  try go_wp2_with (first |((with_reducible refine gate_dst (N:=4) rfl ?_);refine box_event ?hg (N:=4) ?hd (cs:=#[.slice none 0 0,.bool false]) (t:=54) ?hr ?_;(case hd=>rfl);(case hg=>rfl);(case hr=>exact zh);intro gb156 hg w17 hbox hb;have BK156:=am (hbox);have GW156:=gw w hg;have GE156:=gw w hg;replace HB:=am (below_step zb hb);clear hb hbox hg) |((with_reducible refine gate_callee (f:=59) rfl ?_);refine goesL_ (some 7) rfl rfl Tryz.func59 (by kernel_rfl) rfl #[.slice A0 l0.length c0] rfl zl ?_;(with_reducible refine(nat_Trim.calls k _ _ l0 t157 _ ?side1 ?side2 A3.out).mono ?_);(case side1=>repeat (first | exact(Kd.C_below HR0.out HB.out) |(with_reducible refine Kd.C_alloc ?_ _) |(with_reducible refine Kd.C_drewN ?_ _) |(with_reducible refine Kd.C_drew ?_)));(case side2=>exact HC0.out);rintro e w18 ⟨v158,rfl,ho0,hb⟩;refine⟨_,rfl,?_⟩;have HO159:=am (Kd.R_lower ho0 (below_size zb));replace BK156:=kb BK156 hb;replace HB:=am (below_step zb hb);(try clear hb);(try clear ho0);obtain⟨Ao19,co19,eo19⟩:=Kd.R_slice HO159.out;subst eo19) |((with_reducible refine gate_dst (N:=5) rfl ?_);refine box_event ?hg (N:=5) ?hd (cs:=#[.slice none 0 0]) (t:=52) ?hr ?_;(case hd=>rfl);(case hg=>rfl);(case hr=>exact zh);intro gb160 hg w20 hbox hb;replace HO159:=rb HO159 hb;have BK160:=am (hbox);have GW160:=gw w hg;have GE160:=gw w hg;replace HB:=am (below_step zb hb);have NB156_160:=nl BK156 hg;have NB160_156:=nr BK156 hg;replace BK156:=kb BK156 hb;clear hb hbox hg;have hnb21:=NB160_156.out;have hnc21:=NB156_160.out;have hcz22_0 : w20.cell? ⟨gb160,0,none⟩ = some (.slice none 0 0):=(blk_cell BK160.out 0).trans rfl;have hfz22_0:=blk_frozen BK160.out 0))
  have n0_ : Aside0 (Kd.R (Kd.int .u32) 60 (w20.setCell ⟨gb160,0,none⟩ (.slice Ao19 t157.length co19)) w.heap.size (fun _=>True) (.slice Ao19 t157.length co19) t157):=⟨by refine zR ?_;exact Kd.R_mono (Kd.R_far (p:=⟨gb160,0,none⟩) (Kd.R_types HO159.out BK160.out (by decide)) (fun _ hk=>hk.2) (.slice Ao19 t157.length co19)) (fun _ hk=>trivial)⟩
  have n1_ : Aside0 ((w20.setCell ⟨gb160,0,none⟩ (.slice Ao19 t157.length co19)).heap[gb156]? = some (.cells #[.slice none 0 0,.bool false] 54 (0,0))):=⟨by refine zk ?_;refine blk_far ?_ NB156_160.out _;refine zk ?_;exact BK156.out⟩
  have n2_ : Aside0 ((w20.setCell ⟨gb160,0,none⟩ (.slice Ao19 t157.length co19)).heap[gb160]? = some (.cells #[.slice Ao19 t157.length co19] 52 (0,0))):=⟨by refine zk ?_;refine blk_put (cs:=#[.slice none 0 0]) ?_ 0 _ rfl;refine zk ?_;exact BK160.out⟩
  have n3_ : Aside0 (Below w.heap.size w (w20.setCell ⟨gb160,0,none⟩ (.slice Ao19 t157.length co19))):=⟨zb⟩
  (try clear HO159)
  (try clear BK156)
  (try clear BK160)
  (try clear HB)
  generalize (w20.setCell ⟨gb160,0,none⟩ (.slice Ao19 t157.length co19)) = w23 at n0_ n1_ n2_ n3_ ⊢
  have HO159:=n0_
  have BK156:=n1_
  have BK160:=n2_
  have HB:=n3_
  clear n0_ n1_ n2_ n3_
  replace HO159:=am (Kd.R_drew HO159.out)
  replace BK156:=am (blk_drew BK156.out)
  replace BK160:=am (blk_drew BK160.out)
  replace HB:=am (below_drew1 HB.out)
  refine start_ (n:=9) (S:=fun w'=>w'.cell? ⟨gb160,0,none⟩ = some (.slice Ao19 t157.length co19)) (ds:=[]) #[ff,ff,ff,ff,ff,ff,ff,ff,ff] (by kernel_rfl) rfl rfl ((blk_cell BK160.out 0).trans rfl) (fun hHeld=>?_);refine with_tabW num_made.tab2 num_made.bits2 (fun HT_ HW_=>?_)
  generalize w23.drew = w24 at HO159 BK156 BK160 HB hHeld ⊢
  refine pu (i:=1) (N:=some 10) #[ff,tt,ff,ff,ff,ff,ff,ff,ff] (any_of HT_.out (by kernel_rfl)) ?_
  refine pu (i:=2) (N:=some 11) #[ff,tt,tt,ff,ff,ff,ff,ff,ff] (any_of HT_.out (by kernel_rfl)) ?_
  refine pure_ (i:=3) (N:=some 12) (v:=undef) (a':=?_) #[ff,tt,tt,tt,ff,ff,ff,ff,ff] rfl rfl (any_of HT_.out (by kernel_rfl)) (fun _ _ _ h=>h) (Or.inr ⟨by rfl,rfl⟩) ?_ ?_
  rotate_left
  ·simp only [Act.put,sA,sZ,sS,i64_w,i32_w]
   rfl
  refine pure_ (i:=4) (N:=some 13) (v:=undef) (a':=?_) #[ff,tt,tt,tt,tt,ff,ff,ff,ff] rfl rfl (any_of HT_.out (by kernel_rfl)) (fun _ _ _ h=>h) (Or.inr ⟨by rfl,rfl⟩) ?_ ?_
  rotate_left
  ·simp only [Act.put,sA,sZ,sS,i64_w,i32_w]
   rfl
  refine pure_ (i:=5) (N:=some 14) (v:=undef) (a':=?_) #[ff,tt,tt,tt,tt,tt,ff,ff,ff] rfl rfl (any_of HT_.out (by kernel_rfl)) (fun _ _ _ h=>h) (Or.inr ⟨by rfl,rfl⟩) ?_ ?_
  rotate_left
  ·simp only [Act.put,sA,sZ,sS,i64_w,i32_w]
   rfl
  refine pu (i:=6) (N:=some 15) #[ff,tt,tt,tt,tt,tt,tt,ff,ff] (any_of HT_.out (by kernel_rfl)) ?_
  refine take_ (i:=0) (N:=some 9) (v:=?_) (a':=?_) #[tt,tt,tt,tt,tt,tt,tt,ff,ff] rfl rfl (take_ofW HT_.out HW_.out (by kernel_rfl)) (fun _ _ _ h=>h) (Or.inl ⟨by rfl,?_⟩) hHeld ?_ ?_
  rotate_left
  ·intro w' s0
   go_simp
   with_reducible rfl
  rotate_left
  ·simp only [Act.put,sA,sZ,sS,i64_w,i32_w]
   rfl
  refine pu (i:=7) (N:=some 16) #[tt,tt,tt,tt,tt,tt,tt,tt,ff] (any_of HT_.out (by kernel_rfl)) ?_
  refine one_ (i:=8) (N:=none) #[tt,tt,tt,tt,tt,tt,tt,tt,tt] rfl rfl (one_of HT_.out (by kernel_rfl)) (by decide) (fun K hK=>?_)
  have hs25 : w24.cell? ⟨gb156,0,none⟩ = some (.slice none 0 0):=(blk_cell BK156.out 0).trans rfl
  have hfs25:=blk_frozen BK156.out 0
  have hns25_1:=NB160_156.out
  have hms25_1:=NB156_160.out
  have hs26 : w24.cell? ⟨gb156,1,none⟩ = some (.bool false):=(blk_cell BK156.out 1).trans rfl
  have hfs26:=blk_frozen BK156.out 1
  have hns26_1:=NB160_156.out
  have hms26_1:=NB156_160.out
  refine skip_ (w1:=?_) (by rfl) rfl ?_ ?_
  rotate_left
  ·go_simp
   rfl
  refine hK.out _ _ (((cell_far (p:=⟨gb156,_,none⟩) NB160_156.out _).trans (((cell_far (p:=⟨gb156,_,none⟩) NB160_156.out _).trans (hHeld))))) (fun hHeld=>?_)
  clear hK K
  refine done_ (done_of HT_.out (by kernel_rfl)) ?_
  try go_wp2
  refine bodyPost_ret (results_cell_row rfl _ _ gb156 54 #[.slice Ao19 t157.length co19,.bool false] (0,0) _ rfl (by refine zk ?_;refine blk_put (cs:=#[.slice Ao19 t157.length co19,.bool false]) ?_ 1 _ rfl;refine zk ?_;refine blk_put (cs:=#[.slice none 0 0,.bool false]) ?_ 0 _ rfl;refine zk ?_;exact BK156.out) Tryz.underlying54 rfl (by kernel_rfl)) rfl ?_
  exact⟨_,zf,by refine zR ?_;exact Kd.R_mono (Kd.R_far (p:=⟨gb156,1,none⟩) (Kd.R_far (p:=⟨gb156,0,none⟩) (Kd.R_types HO159.out BK156.out (by decide)) (fun _ hk=>hk.2) (.slice Ao19 t157.length co19)) (fun _ hk=>hk.2) (.bool false)) (fun _ hk=>trivial),zb⟩

/-! ### num_number_out: function 30 -/
def num_number_out.f (l0_0 : List Int) (a0_1 : Bool) : Option (Bool×List Int):=some (a0_1,l0_0)
theorem num_number_out.calls (P0_0_ : Nat→Prop) (A0_0 : Option Addr) (c0_0 : Nat) (l0_0 : List Int) (a0_1 : Bool) (r1 : Bool) (r2 : List Int) (w : World) (hs0_0 : Kd.V (Kd.int .u32) 60 w w.heap.size (fun k_=>P0_0_ k_) (.slice A0_0 l0_0.length c0_0) l0_0) (h : num_number_out.f l0_0 a0_1 = some (r1,r2)) :
  Calls Tryz.prog 30 #[.agg #[.slice A0_0 l0_0.length c0_0,.bool a0_1]] w fun e w'=>∃ v1_ : Value,e = .returned (.agg #[.bool r1,v1_])∧Kd.V (Kd.int .u32) 60 w' w.heap.size (fun k_=>(P0_0_ k_∨w.heap.size≤k_)) v1_ r2∧Below w.heap.size w w':=by
 have hu54:=Tryz.underlying54
 have hu25:=Tryz.underlying25
 have HO0_0:=am (show Kd.V (Kd.int .u32) 60 w w.heap.size (fun k_=>(P0_0_ k_∨w.heap.size≤k_)) (.slice A0_0 l0_0.length c0_0) l0_0 from Kd.V_mono hs0_0 (fun k_ hk=>.inl hk))
 have HB:=am (Below.refl w.heap.size w)
 have H : (some (a0_1,l0_0)) = some (r1,r2):=h
 clear h
 simp only [Option.some.injEq,Prod.mk.injEq] at H
 obtain⟨rfl,rfl⟩:=H
 go_enter Tryz.func30,Tryz.ntmps30
 go_wp2_with (first |((with_reducible refine gate_dst (N:=1) rfl ?_);refine box_event ?hg (N:=1) ?hd (cs:=#[.slice A0_0 l0_0.length c0_0,.bool a0_1]) (t:=54) ?hr ?_;(case hd=>rfl);(case hg=>rfl);(case hr=>exact zh);intro gb162 hg w2 hbox hb;replace HO0_0:=vB gb162 HO0_0 hg hb;have BK162:=am (hbox);have GW162:=gw w hg;have GE162:=gw w hg;replace HB:=am (below_step zb hb);clear hb hbox hg) |((with_reducible refine gate_dst (N:=2) rfl ?_);refine box_event ?hg (N:=2) ?hd (cs:=#[.bool false,.slice none 0 0]) (t:=25) ?hr ?_;(case hd=>rfl);(case hg=>rfl);(case hr=>exact zh);intro gb163 hg w3 hbox hb;replace HO0_0:=vB gb163 HO0_0 hg hb;have BK163:=am (hbox);have GW163:=gw w hg;have GE163:=gw w hg;replace HB:=am (below_step zb hb);have NB162_163:=nl BK162 hg;have NB163_162:=nr BK162 hg;replace BK162:=kb BK162 hb;clear hb hbox hg;have hnb4:=NB162_163.out;have hnc4:=NB163_162.out;have hcz5_0 : w3.cell? ⟨gb162,0,none⟩ = some (.slice A0_0 l0_0.length c0_0):=(blk_cell BK162.out 0).trans rfl;have hcz5_1 : w3.cell? ⟨gb162,1,none⟩ = some (.bool a0_1):=(blk_cell BK162.out 1).trans rfl;have hfz5_0:=blk_frozen BK162.out 0;have hfz5_1:=blk_frozen BK162.out 1;have hcz6_0 : w3.cell? ⟨gb163,0,none⟩ = some (.bool false):=(blk_cell BK163.out 0).trans rfl;have hcz6_1 : w3.cell? ⟨gb163,1,none⟩ = some (.slice none 0 0):=(blk_cell BK163.out 1).trans rfl;have hfz6_0:=blk_frozen BK163.out 0;have hfz6_1:=blk_frozen BK163.out 1))
 refine bodyPost_ret (results_cell_row rfl _ _ gb163 25 #[.bool a0_1,.slice A0_0 l0_0.length c0_0] (0,0) _ rfl (by refine zk ?_;refine blk_put (cs:=#[.bool a0_1,.slice none 0 0]) ?_ 1 _ rfl;refine zk ?_;refine blk_put (cs:=#[.bool false,.slice none 0 0]) ?_ 0 _ rfl;refine zk ?_;exact BK163.out) Tryz.underlying25 rfl (by kernel_rfl)) rfl ?_
 exact⟨_,zf,by refine zV ?_;exact Kd.V_mono (Kd.V_far (p:=⟨gb163,1,none⟩) (Kd.V_far (p:=⟨gb163,0,none⟩) (Kd.V_mono HO0_0.out (fun k_ hk=>(⟨hk,hk.2⟩ : _∧k_≠gb163))) (fun _ hk=>hk.2) (.bool a0_1)) (fun _ hk=>hk.2) (.slice A0_0 l0_0.length c0_0)) (fun _ hk=>hk.1.1.1),zb⟩

/-! ### num_Parse: function 7 -/
def num_Parse.j0 : Nat→Bool→List Int→Bool→Option (Bool×List Int×Bool)
 | 0,_,_,_=>none
 | k + 1,x5,x6,x27=>if x27 = true then(some (false,([] : List Int),false)) else((num_made.f k x6 x5).bind fun bt171=>((num_number_out.f bt171.1 bt171.2).bind fun bt175=>(some (bt175.1,bt175.2,true))))
def num_Parse.f (k : Nat) (a0 : ByteArray) : Option (Bool×List Int×Bool):=(strings_CutPrefix.f a0 (⟨#[45]⟩ : ByteArray)).bind fun bt165=>((nat_Of.f k bt165.1).bind fun bt167=>(if bt167.2 = true then(if bt165.2 = true then(num_Parse.j0 k bt165.2 bt167.1 ((bt167.1.length : Int) == 0)) else(num_Parse.j0 k bt165.2 bt167.1 false)) else(num_Parse.j0 k bt165.2 bt167.1 true)))
theorem num_Parse.calls (k : Nat) (a0 : ByteArray) (r1 : Bool) (r2 : List Int) (r3 : Bool) (w : World) (h : num_Parse.f k a0 = some (r1,r2,r3)) :
  Calls Tryz.prog 7 #[.string a0] w fun e w'=>∃ v1_ : Value,e = .returned (.tuple #[.agg #[.bool r1,v1_],.bool r3])∧Kd.V (Kd.int .u32) 60 w' w.heap.size (fun k_=>(w.heap.size≤k_)) v1_ r2∧Below w.heap.size w w':=by
 have hu25:=Tryz.underlying25
 have HB:=am (Below.refl w.heap.size w)
 have H : ((strings_CutPrefix.f a0 (⟨#[45]⟩ : ByteArray)).bind fun bt165=>((nat_Of.f k bt165.1).bind fun bt167=>(if bt167.2 = true then(if bt165.2 = true then(num_Parse.j0 k bt165.2 bt167.1 ((bt167.1.length : Int) == 0)) else(num_Parse.j0 k bt165.2 bt167.1 false)) else(num_Parse.j0 k bt165.2 bt167.1 true)))) = some (r1,r2,r3):=h
 clear h
 replace H:=Option.bind_eq_some_iff.mp H
 obtain⟨⟨t165,t166⟩,A20,H⟩:=H
 try dsimp only at H
 have A2:=am A20
 clear A20
 replace H:=Option.bind_eq_some_iff.mp H
 obtain⟨⟨t167,t168⟩,A30,H⟩:=H
 try dsimp only at H
 have A3:=am A30
 clear A30
 have HC4:=am H
 clear H
 go_enter Tryz.func7,Tryz.ntmps7
 go_upto_region 3 with(first |((with_reducible refine gate_dst (N:=2) rfl ?_);(try (refine gate_guard (by rfl) ?_;dsimp only));refine box_event ?hg (N:=2) ?hd (cs:=#[.bool false,.slice none 0 0]) (t:=25) ?hr ?_;(case hd=>rfl);(case hg=>rfl);(case hr=>exact zh);intro gb164 hg w5 hbox hb;have BK164:=am (hbox);have GW164:=gw w hg;have GE164:=gw w hg;replace HB:=am (below_step zb hb);clear hb hbox hg) |((with_reducible refine gate_callee (f:=27) rfl ?_);refine goesL_ (some 10) rfl rfl Tryz.func27 (by kernel_rfl) rfl #[.string a0,.string (⟨#[45]⟩ : ByteArray)] rfl zl ?_;(with_reducible refine(strings_CutPrefix.calls a0 (⟨#[45]⟩ : ByteArray) t165 t166 _ A2.out).mono ?_);rintro e w' ⟨rfl,⟨nd,rfl⟩⟩;refine⟨_,rfl,?_⟩) |((with_reducible refine gate_callee (f:=28) rfl ?_);refine goesL_ (some 15) rfl rfl Tryz.func28 (by kernel_rfl) rfl #[.string t165] rfl zl ?_;(with_reducible refine(nat_Of.calls k t165 t167 t168 _ A3.out).mono ?_);rintro e w6 ⟨v169,rfl,ho0,hb⟩;refine⟨_,rfl,?_⟩;have HO170:=am (Kd.R_lower (Kd.R_newM (M:=fun k_=>(w.heap.size≤k_)) ho0 (below_size zb) (fun k_ h_=>h_)) (below_size zb));replace BK164:=kb BK164 hb;replace HB:=am (below_step zb hb);(try clear hb);(try clear ho0)))
 (try simp only [Act.put,sA,sZ,sS])
 go_cut [27] (fun v27 wc=>∃ (kq : Nat) (x27_3 : Bool),v27 = .bool x27_3∧Aside0 (num_Parse.j0 kq t166 t167 x27_3 = some (r1,r2,r3))∧Aside0 (kq≤k)∧Aside0 (Kd.R (Kd.int .u32) 60 wc w.heap.size (fun k_=>(w.heap.size≤k_)) v169 t167)∧Aside0 (wc.heap[gb164]? = some (.cells #[.bool false,(.slice none 0 0)] 25 (0,0)))∧Aside0 (Below w.heap.size w wc))
 case first=>
  have H:=HC4.out
  clear HC4
  by_cases c7 : t168 = true
  ·subst c7
   have H1 : (if t166 = true then(num_Parse.j0 k t166 t167 ((t167.length : Int) == 0)) else(num_Parse.j0 k t166 t167 false)) = some (r1,r2,r3):=by rw [if_pos rfl] at H;exact H
   clear H
   have H:=H1
   clear H1
   by_cases c8 : t166 = true
   ·subst c8
    have H1 : (num_Parse.j0 k true t167 ((t167.length : Int) == 0)) = some (r1,r2,r3):=by rw [if_pos rfl] at H;exact H
    clear H
    have H:=H1
    clear H1
    have H':=am H
    clear H
    obtain⟨Ao9,co9,eo9⟩:=Kd.R_slice HO170.out
    subst eo9
    go_wp2
    go_meet
    case rel=>exact⟨_,(((t167.length : Int) == 0)),ze,H',⟨zo⟩,⟨by refine zR ?_;exact Kd.R_mono HO170.out (fun _ hk=>hk.1)⟩,⟨zk BK164.out⟩,⟨zb⟩⟩
   ·replace c8:=Bool.eq_false_iff.mpr c8
    subst c8
    have H1 : (num_Parse.j0 k false t167 false) = some (r1,r2,r3):=by rw [if_neg (show ¬ (false = true) by decide)] at H;exact H
    clear H
    have H:=H1
    clear H1
    have H':=am H
    clear H
    go_wp2
    go_meet
    case rel=>exact⟨_,(false),ze,H',⟨zo⟩,⟨by refine zR ?_;exact Kd.R_mono HO170.out (fun _ hk=>hk.1)⟩,⟨zk BK164.out⟩,⟨zb⟩⟩
  ·replace c7:=Bool.eq_false_iff.mpr c7
   subst c7
   have H1 : (num_Parse.j0 k t166 t167 true) = some (r1,r2,r3):=by rw [if_neg (show ¬ (false = true) by decide)] at H;exact H
   clear H
   have H:=H1
   clear H1
   have H':=am H
   clear H
   go_wp2
   go_meet
   case rel=>exact⟨_,(true),ze,H',⟨zo⟩,⟨by refine zR ?_;exact Kd.R_mono HO170.out (fun _ hk=>hk.1)⟩,⟨zk BK164.out⟩,⟨zb⟩⟩
 case rest=>
  clear HC4
  try clear c2
  try clear p2
  try clear c7
  try clear c8
  obtain⟨kq,x27_3,rfl,HA,HJ3,HO_6,BK164,HB⟩:=hcut
  cases kq with
  | zero=>exact absurd HA.out (by simp [num_Parse.j0])
  | succ kj3=>
   have H:=HA.out
   clear HA
   simp only [num_Parse.j0] at H
   by_cases c10 : x27_3 = true
   ·subst c10
    have H1 : (some (false,([] : List Int),false)) = some (r1,r2,r3):=by rw [if_pos rfl] at H;exact H
    clear H
    have H:=H1
    clear H1
    simp only [Option.some.injEq,Prod.mk.injEq] at H
    obtain⟨rfl,rfl,rfl⟩:=H
    have hcz11_0 : wc.cell? ⟨gb164,0,none⟩ = some (.bool false):=(blk_cell BK164.out 0).trans rfl
    have hcz11_1 : wc.cell? ⟨gb164,1,none⟩ = some (.slice none 0 0):=(blk_cell BK164.out 1).trans rfl
    have hfz11_0:=blk_frozen BK164.out 0
    have hfz11_1:=blk_frozen BK164.out 1
    go_wp2
    refine bodyPost_ret (results_ct rfl _ _ gb164 25 #[.bool false,.slice none 0 0] (0,0) _ rfl (by refine zk ?_;refine blk_put (cs:=#[.bool false,.slice none 0 0]) ?_ 1 _ rfl;refine zk ?_;refine blk_put (cs:=#[.bool false,.slice none 0 0]) ?_ 0 _ rfl;refine zk ?_;exact BK164.out) Tryz.underlying25 rfl (by kernel_rfl)) rfl ?_
    exact⟨_,zf,Kd.V_nil _ _ _ _ _,zb⟩
   ·replace c10:=Bool.eq_false_iff.mpr c10
    subst c10
    have H1 : ((num_made.f kj3 t167 t166).bind fun bt171=>((num_number_out.f bt171.1 bt171.2).bind fun bt175=>(some (bt175.1,bt175.2,true)))) = some (r1,r2,r3):=by rw [if_neg (show ¬ (false = true) by decide)] at H;exact H
    clear H
    have H:=H1
    clear H1
    replace H:=Option.bind_eq_some_iff.mp H
    obtain⟨⟨t171,t174⟩,A120,H⟩:=H
    try dsimp only at H
    have A12:=am A120
    clear A120
    replace H:=Option.bind_eq_some_iff.mp H
    obtain⟨⟨t175,t176⟩,A130,H⟩:=H
    try dsimp only at H
    have A13:=am A130
    clear A130
    simp only [Option.some.injEq,Prod.mk.injEq] at H
    obtain⟨rfl,rfl,rfl⟩:=H
    obtain⟨Ao14,co14,eo14⟩:=Kd.R_slice HO_6.out
    subst eo14
    go_wp2_with (first |((with_reducible refine gate_callee (f:=29) rfl ?_);refine goesL_ (some 31) rfl rfl Tryz.func29 (by kernel_rfl) rfl #[.slice Ao14 t167.length co14,.bool t166] rfl zl ?_;(with_reducible refine(num_made.calls kj3 _ _ t167 t166 t171 t174 _ ?side1 ?side2 A12.out).mono ?_);(case side1=>exact zC (Kd.R_reads' HO_6.out).2.2);(case side2=>exact(Kd.R_reads' HO_6.out).2.1);rintro e w15 ⟨v172,rfl,ho0,hb⟩;refine⟨_,rfl,?_⟩;have HO173:=am (Kd.R_lower (Kd.R_new' (Kd.R_newM (M:=fun k_=>(w.heap.size≤k_)) ho0 (below_size zb) (fun k_ h_=>h_)) (Kd.R_lt (zR HO_6.out))) (below_size zb));replace HO_6:=re HO_6 (Kd.R_base ho0) hb;replace BK164:=kb BK164 hb;replace HB:=am (below_step zb hb);(try clear hb);(try clear ho0);obtain⟨Ao16,co16,eo16⟩:=Kd.R_slice HO173.out;subst eo16) |((with_reducible refine gate_callee (f:=30) rfl ?_);refine goesL_ (some 32) rfl rfl Tryz.func30 (by kernel_rfl) rfl #[.agg #[.slice Ao16 t171.length co16,.bool t174]] rfl zl ?_;(with_reducible refine(num_number_out.calls (fun k_=>some k_ = (.slice Ao16 t171.length co16 : Value).ownBlock) _ _ t171 t174 t175 t176 _ ?side1 A13.out).mono ?_);(case side1=>exact Kd.R_V (Kd.R_tight rfl (Kd.R_types (HO173.out) BK164.out (by decide))));rintro e w17 ⟨v177,rfl,ho0,hb⟩;refine⟨_,rfl,?_⟩;have HO178:=am (Kd.V_lower (Kd.V_mono (ok':=fun k_=>(w.heap.size≤k_)∧some k_≠(.slice Ao14 t167.length co14 : Value).ownBlock∧k_≠gb164) ho0 (fun k_ hk_=>⟨Or.elim hk_ (fun hs_=>((Kd.R_types (HO173.out) BK164.out (by decide)).1 k_ hs_.symm).1.1.1) (fun hn_=>(Nat.le_trans (below_size zb) hn_)),Or.elim hk_ (fun hs_=>((Kd.R_types (HO173.out) BK164.out (by decide)).1 k_ hs_.symm).1.2) (fun hn_=>(Kd.fresh' (Kd.R_lt (zR HO_6.out)) k_ hn_)),Or.elim hk_ (fun hs_=>((Kd.R_types (HO173.out) BK164.out (by decide)).1 k_ hs_.symm).2) (fun hn_=>(fb BK164 k_ hn_))⟩)) (below_size zb));replace HO_6:=rb HO_6 hb;replace HO173:=rb HO173 hb;replace BK164:=kb BK164 hb;replace HB:=am (below_step zb hb);(try clear hb);(try clear ho0);have hcz18_0 : w17.cell? ⟨gb164,0,none⟩ = some (.bool false):=(blk_cell BK164.out 0).trans rfl;have hcz18_1 : w17.cell? ⟨gb164,1,none⟩ = some (.slice none 0 0):=(blk_cell BK164.out 1).trans rfl;have hfz18_0:=blk_frozen BK164.out 0;have hfz18_1:=blk_frozen BK164.out 1;obtain⟨Ao19,co19,eo19⟩:=Kd.V_slice HO178.out;subst eo19))
    refine bodyPost_ret (results_ct rfl _ _ gb164 25 #[.bool t175,.slice Ao19 t176.length co19] (0,0) _ rfl (by refine zk ?_;refine blk_put (cs:=#[.bool t175,.slice none 0 0]) ?_ 1 _ rfl;refine zk ?_;refine blk_put (cs:=#[.bool false,.slice none 0 0]) ?_ 0 _ rfl;refine zk ?_;exact BK164.out) Tryz.underlying25 rfl (by kernel_rfl)) rfl ?_
    exact⟨_,zf,by refine zV ?_;exact Kd.V_mono (Kd.V_far (p:=⟨gb164,1,none⟩) (Kd.V_far (p:=⟨gb164,0,none⟩) (Kd.V_mono HO178.out (fun k_ hk=>(⟨hk,hk.2.2⟩ : _∧k_≠gb164))) (fun _ hk=>hk.2) (.bool t175)) (fun _ hk=>hk.2) (.slice Ao19 t176.length co19)) (fun _ hk=>hk.1.1),zb⟩

/-! ### whetstonekit_SameLimbs: function 62 -/
def whetstonekit_SameLimbs.l0 : Nat→List Int→List Int→Int→Option (Bool)
 | 0,_,_,_=>none
 | k + 1,x0,x1,x5=>if x5 < (x0.length : Int) then(if 0≤x5 then(if x5 < (x1.length : Int) then(if (rd x0 x5) = (rd x1 x5) then(whetstonekit_SameLimbs.l0 k x0 x1 (wrap64 (x5 + 1))) else(some false)) else(none)) else(none)) else(some true)
def whetstonekit_SameLimbs.f (k : Nat) (l0 : List Int) (l1 : List Int) : Option (Bool):=if (l0.length : Int) = (l1.length : Int) then(whetstonekit_SameLimbs.l0 k l0 l1 0) else(some false)
theorem whetstonekit_SameLimbs.calls (k : Nat) (A0 : Option Addr) (c0 : Nat) (l0 : List Int) (A1 : Option Addr) (c1 : Nat) (l1 : List Int) (r : Bool) (w : World) (hr0 : Kd.C (Kd.int .u32) w A0 l0.length l0) (hc0 : l0.length≤c0) (hr1 : Kd.C (Kd.int .u32) w A1 l1.length l1) (hc1 : l1.length≤c1) (h : whetstonekit_SameLimbs.f k l0 l1 = some r) :
  Calls Tryz.prog 62 #[.slice A0 l0.length c0,.slice A1 l1.length c1] w fun e w'=>e = .returned (.bool r)∧Drawn0 w w':=by
 have HR0:=am hr0
 have HC0:=am hc0
 clear hr0 hc0
 have HR1:=am hr1
 have HC1:=am hc1
 clear hr1 hc1
 have H : (if (l0.length : Int) = (l1.length : Int) then(whetstonekit_SameLimbs.l0 k l0 l1 0) else(some false)) = some r:=h
 clear h
 by_cases c3 : (l0.length : Int) = (l1.length : Int)
 ·rw [if_pos c3] at H
  have c3b0 : ((l0.length : Int) == (l1.length : Int)) = true:=beq_iff_eq.mpr c3
  have c3b1 : ((l0.length : Int) != (l1.length : Int)) = false:=bne_eq_false_iff_eq.mpr c3
  have c3b2 : (l0.length == l1.length) = true:=by first | simpa using c3 |(simp at c3 ⊢;omega)
  clear c3
  have H':=am H
  clear H
  go_enter Tryz.func62,Tryz.ntmps62
  go_wp2
  repeat (go_quiet (fail);try go_wp2)
  go_loopg [5] k (fun kq v5 w'=>∃ (x5_1 : Int),v5 = .int .i64 x5_1∧Aside0 (whetstonekit_SameLimbs.l0 kq l0 l1 x5_1 = some r)∧Aside0 (kq≤k)∧Drawn0 w w')
  case atStart=>exact⟨(0),ze,H',⟨Nat.le_refl _⟩,by repeat (first | exact Drawn0.refl _ | apply Drawn0.step)⟩
  case round=>
   clear H'
   try clear c1
   try clear p2
   try clear c3
   try clear c3b0
   try clear c3b1
   try clear c3b2
   obtain⟨x5_1,rfl,HA,HK1,⟨m1,rfl⟩⟩:=hrel
   cases gk with
   | zero=>exact absurd HA.out (by simp [whetstonekit_SameLimbs.l0])
   | succ k1=>
    have H:=HA.out
    clear HA
    simp only [whetstonekit_SameLimbs.l0] at H
    by_cases c4 : x5_1 < (l0.length : Int)
    ·rw [if_pos c4] at H
     have c4b0 : decide (x5_1 < (l0.length : Int)) = true:=decide_eq_true c4
     clear c4
     by_cases c5 : 0≤x5_1
     ·rw [if_pos c5] at H
      have c5b0 : decide (0≤x5_1) = true:=decide_eq_true c5
      clear c5
      by_cases c6 : x5_1 < (l1.length : Int)
      ·rw [if_pos c6] at H
       have c6b0 : decide (x5_1 < (l1.length : Int)) = true:=decide_eq_true c6
       clear c6
       by_cases c7 : (rd l0 x5_1) = (rd l1 x5_1)
       ·rw [if_pos c7] at H
        have c7b0 : ((rd l0 x5_1) == (rd l1 x5_1)) = true:=beq_iff_eq.mpr c7
        have c7b1 : ((rd l0 x5_1) != (rd l1 x5_1)) = false:=bne_eq_false_iff_eq.mpr c7
        clear c7
        have H':=am H
        clear H
        have p179 : 0≤(x5_1 : Int):=of_decide_eq_true za
        have q179 : x5_1 < (l0.length : Int):=of_decide_eq_true za
        obtain⟨ad179,e179,hx179_0⟩:=Kd.at_int HR0.out x5_1 p179 q179
        cases e179
        replace p179:=eq_true p179
        replace q179:=eq_true q179
        have p180 : 0≤(x5_1 : Int):=of_decide_eq_true za
        have q180 : x5_1 < (l1.length : Int):=of_decide_eq_true za
        obtain⟨ad180,e180,hx180_0⟩:=Kd.at_int HR1.out x5_1 p180 q180
        cases e180
        replace p180:=eq_true p180
        replace q180:=eq_true q180
        go_wp2
        repeat (go_quiet (fail);try go_wp2)
        go_roundg k1
        case measure=>have:=HK1.out;omega
        case rel=>exact⟨(wrap64 (x5_1 + 1)),ze,H',⟨by have:=HK1.out;omega⟩,by repeat (first | exact Drawn0.refl _ | apply Drawn0.step)⟩
       ·rw [if_neg c7] at H
        have c7b0 : ((rd l0 x5_1) == (rd l1 x5_1)) = false:=beq_eq_false_iff_ne.mpr c7
        have c7b1 : ((rd l0 x5_1) != (rd l1 x5_1)) = true:=bne_iff_ne.mpr c7
        obtain rfl:=Option.some.inj H
        have p179 : 0≤(x5_1 : Int):=of_decide_eq_true za
        have q179 : x5_1 < (l0.length : Int):=of_decide_eq_true za
        obtain⟨ad179,e179,hx179_0⟩:=Kd.at_int HR0.out x5_1 p179 q179
        cases e179
        replace p179:=eq_true p179
        replace q179:=eq_true q179
        have p180 : 0≤(x5_1 : Int):=of_decide_eq_true za
        have q180 : x5_1 < (l1.length : Int):=of_decide_eq_true za
        obtain⟨ad180,e180,hx180_0⟩:=Kd.at_int HR1.out x5_1 p180 q180
        cases e180
        replace p180:=eq_true p180
        replace q180:=eq_true q180
        go_wp2
        repeat (go_quiet (fail);try go_wp2)
        go_ret
        exact⟨ze,by repeat (first | exact Drawn0.refl _ | apply Drawn0.step)⟩
      ·rw [if_neg c6] at H
       exact absurd H (by simp)
     ·rw [if_neg c5] at H
      exact absurd H (by simp)
    ·rw [if_neg c4] at H
     have c4b0 : decide (x5_1 < (l0.length : Int)) = false:=decide_eq_false c4
     clear c4
     obtain rfl:=Option.some.inj H
     go_wp2
     repeat (go_quiet (fail);try go_wp2)
     go_ret
     exact⟨ze,by repeat (first | exact Drawn0.refl _ | apply Drawn0.step)⟩
 ·rw [if_neg c3] at H
  have c3b0 : ((l0.length : Int) == (l1.length : Int)) = false:=beq_eq_false_iff_ne.mpr c3
  have c3b1 : ((l0.length : Int) != (l1.length : Int)) = true:=bne_iff_ne.mpr c3
  have c3b2 : (l0.length == l1.length) = false:=by first | simpa using c3 |(simp at c3 ⊢;omega)
  obtain rfl:=Option.some.inj H
  go_enter Tryz.func62,Tryz.ntmps62
  go_wp2
  repeat (go_quiet (fail);try go_wp2)
  go_ret
  exact⟨ze,by repeat (first | exact Drawn0.refl _ | apply Drawn0.step)⟩

/-! ### whetstonekit_SameInt: function 33 -/
def whetstonekit_SameInt.f (k : Nat) (a0_0 : Bool) (l0_1 : List Int) (a1_0 : Bool) (l1_1 : List Int) : Option (Bool):=if (a0_0 == a1_0) = true then((whetstonekit_SameLimbs.f k l0_1 l1_1).bind fun t183=>(some t183)) else(some false)
theorem whetstonekit_SameInt.calls (k : Nat) (a0_0 : Bool) (A0_1 : Option Addr) (c0_1 : Nat) (l0_1 : List Int) (a1_0 : Bool) (A1_1 : Option Addr) (c1_1 : Nat) (l1_1 : List Int) (r : Bool) (w : World) (hr0_1 : Kd.C (Kd.int .u32) w A0_1 l0_1.length l0_1) (hc0_1 : l0_1.length≤c0_1) (hr1_1 : Kd.C (Kd.int .u32) w A1_1 l1_1.length l1_1) (hc1_1 : l1_1.length≤c1_1) (h : whetstonekit_SameInt.f k a0_0 l0_1 a1_0 l1_1 = some r) :
  Calls Tryz.prog 33 #[.agg #[.bool a0_0,.slice A0_1 l0_1.length c0_1],.agg #[.bool a1_0,.slice A1_1 l1_1.length c1_1]] w fun e w'=>e = .returned (.bool r)∧Below w.heap.size w w':=by
 have hu25:=Tryz.underlying25
 have HR0_1:=am hr0_1
 have HC0_1:=am hc0_1
 clear hr0_1 hc0_1
 have HR1_1:=am hr1_1
 have HC1_1:=am hc1_1
 clear hr1_1 hc1_1
 have HB:=am (Below.refl w.heap.size w)
 have H : (if (a0_0 == a1_0) = true then((whetstonekit_SameLimbs.f k l0_1 l1_1).bind fun t183=>(some t183)) else(some false)) = some r:=h
 clear h
 by_cases c3 : (a0_0 == a1_0) = true
 ·rw [if_pos c3] at H
  have c3b0 : (a0_0 == a1_0) = true:=c3
  (try (have c3b1 : decide (a0_0 = a1_0) = true:=by simpa using c3))
  (try (have c3b2 : (a0_0 == a1_0) = true:=by simpa using c3))
  clear c3
  replace H:=Option.bind_eq_some_iff.mp H
  obtain⟨t183,A40,H⟩:=H
  try dsimp only at H
  have A4:=am A40
  clear A40
  obtain rfl:=Option.some.inj H
  go_enter Tryz.func33,Tryz.ntmps33
  go_wp2_with (first |((with_reducible refine gate_dst (N:=2) rfl ?_);refine box_event ?hg (N:=2) ?hd (cs:=#[.bool a0_0,.slice A0_1 l0_1.length c0_1]) (t:=25) ?hr ?_;(case hd=>rfl);(case hg=>rfl);(case hr=>exact zh);intro gb181 hg w5 hbox hb;have BK181:=am (hbox);have GW181:=gw w hg;have GE181:=gw w hg;replace HB:=am (below_step zb hb);clear hb hbox hg) |((with_reducible refine gate_dst (N:=3) rfl ?_);refine box_event ?hg (N:=3) ?hd (cs:=#[.bool a1_0,.slice A1_1 l1_1.length c1_1]) (t:=25) ?hr ?_;(case hd=>rfl);(case hg=>rfl);(case hr=>exact zh);intro gb182 hg w6 hbox hb;have BK182:=am (hbox);have GW182:=gw w hg;have GE182:=gw w hg;replace HB:=am (below_step zb hb);have NB181_182:=nl BK181 hg;have NB182_181:=nr BK181 hg;replace BK181:=kb BK181 hb;clear hb hbox hg;have hnb7:=NB181_182.out;have hnc7:=NB182_181.out;have hcz8_0 : w6.cell? ⟨gb181,0,none⟩ = some (.bool a0_0):=(blk_cell BK181.out 0).trans rfl;have hcz8_1 : w6.cell? ⟨gb181,1,none⟩ = some (.slice A0_1 l0_1.length c0_1):=(blk_cell BK181.out 1).trans rfl;have hfz8_0:=blk_frozen BK181.out 0;have hfz8_1:=blk_frozen BK181.out 1;have hcz9_0 : w6.cell? ⟨gb182,0,none⟩ = some (.bool a1_0):=(blk_cell BK182.out 0).trans rfl;have hcz9_1 : w6.cell? ⟨gb182,1,none⟩ = some (.slice A1_1 l1_1.length c1_1):=(blk_cell BK182.out 1).trans rfl;have hfz9_0:=blk_frozen BK182.out 0;have hfz9_1:=blk_frozen BK182.out 1) |(go_at_call 62;(with_reducible refine(whetstonekit_SameLimbs.calls k _ _ l0_1 _ _ l1_1 t183 _ ?side1 ?side2 ?side3 ?side4 A4.out).mono ?_);(case side1=>repeat (first | exact(Kd.C_below HR0_1.out HB.out) |(with_reducible refine Kd.C_alloc ?_ _) |(with_reducible refine Kd.C_drewN ?_ _) |(with_reducible refine Kd.C_drew ?_)));(case side2=>exact HC0_1.out);(case side3=>repeat (first | exact(Kd.C_below HR1_1.out HB.out) |(with_reducible refine Kd.C_alloc ?_ _) |(with_reducible refine Kd.C_drewN ?_ _) |(with_reducible refine Kd.C_drew ?_)));(case side4=>exact HC1_1.out);rintro e w' ⟨rfl,⟨nd,rfl⟩⟩))
  go_ret
  exact⟨zf,zb⟩
 ·rw [if_neg c3] at H
  have c3b0 : (a0_0 == a1_0) = false:=by simpa using c3
  (try (have c3b1 : decide (a0_0 = a1_0) = false:=by simpa using c3))
  (try (have c3b2 : (a0_0 == a1_0) = false:=by simpa using c3))
  (try (have c3b3 : ¬ (a0_0 = a1_0):=by simpa using c3))
  clear c3
  obtain rfl:=Option.some.inj H
  go_enter Tryz.func33,Tryz.ntmps33
  go_wp2_with (first |((with_reducible refine gate_dst (N:=2) rfl ?_);refine box_event ?hg (N:=2) ?hd (cs:=#[.bool a0_0,.slice A0_1 l0_1.length c0_1]) (t:=25) ?hr ?_;(case hd=>rfl);(case hg=>rfl);(case hr=>exact zh);intro gb181 hg w10 hbox hb;have BK181:=am (hbox);have GW181:=gw w hg;have GE181:=gw w hg;replace HB:=am (below_step zb hb);clear hb hbox hg) |((with_reducible refine gate_dst (N:=3) rfl ?_);refine box_event ?hg (N:=3) ?hd (cs:=#[.bool a1_0,.slice A1_1 l1_1.length c1_1]) (t:=25) ?hr ?_;(case hd=>rfl);(case hg=>rfl);(case hr=>exact zh);intro gb182 hg w11 hbox hb;have BK182:=am (hbox);have GW182:=gw w hg;have GE182:=gw w hg;replace HB:=am (below_step zb hb);have NB181_182:=nl BK181 hg;have NB182_181:=nr BK181 hg;replace BK181:=kb BK181 hb;clear hb hbox hg;have hnb12:=NB181_182.out;have hnc12:=NB182_181.out;have hcz13_0 : w11.cell? ⟨gb181,0,none⟩ = some (.bool a0_0):=(blk_cell BK181.out 0).trans rfl;have hcz13_1 : w11.cell? ⟨gb181,1,none⟩ = some (.slice A0_1 l0_1.length c0_1):=(blk_cell BK181.out 1).trans rfl;have hfz13_0:=blk_frozen BK181.out 0;have hfz13_1:=blk_frozen BK181.out 1;have hcz14_0 : w11.cell? ⟨gb182,0,none⟩ = some (.bool a1_0):=(blk_cell BK182.out 0).trans rfl;have hcz14_1 : w11.cell? ⟨gb182,1,none⟩ = some (.slice A1_1 l1_1.length c1_1):=(blk_cell BK182.out 1).trans rfl;have hfz14_0:=blk_frozen BK182.out 0;have hfz14_1:=blk_frozen BK182.out 1))
  go_ret
  exact⟨zf,zb⟩

/-! ### whetstonelaw02_same: function 9 -/
def whetstonelaw02_same.f (k : Nat) (a0_0 : Bool) (l0_1 : List Int) (a1_0 : Bool) (l1_1 : List Int) : Option (Bool):=(whetstonekit_SameInt.f k a0_0 l0_1 a1_0 l1_1).bind fun t186=>(some t186)
theorem whetstonelaw02_same.calls (k : Nat) (a0_0 : Bool) (A0_1 : Option Addr) (c0_1 : Nat) (l0_1 : List Int) (a1_0 : Bool) (A1_1 : Option Addr) (c1_1 : Nat) (l1_1 : List Int) (r : Bool) (w : World) (hr0_1 : Kd.C (Kd.int .u32) w A0_1 l0_1.length l0_1) (hc0_1 : l0_1.length≤c0_1) (hr1_1 : Kd.C (Kd.int .u32) w A1_1 l1_1.length l1_1) (hc1_1 : l1_1.length≤c1_1) (h : whetstonelaw02_same.f k a0_0 l0_1 a1_0 l1_1 = some r) :
  Calls Tryz.prog 9 #[.agg #[.bool a0_0,.slice A0_1 l0_1.length c0_1],.agg #[.bool a1_0,.slice A1_1 l1_1.length c1_1]] w fun e w'=>e = .returned (.bool r)∧Below w.heap.size w w':=by
 have hu25:=Tryz.underlying25
 have HR0_1:=am hr0_1
 have HC0_1:=am hc0_1
 clear hr0_1 hc0_1
 have HR1_1:=am hr1_1
 have HC1_1:=am hc1_1
 clear hr1_1 hc1_1
 have HB:=am (Below.refl w.heap.size w)
 have H : ((whetstonekit_SameInt.f k a0_0 l0_1 a1_0 l1_1).bind fun t186=>(some t186)) = some r:=h
 clear h
 replace H:=Option.bind_eq_some_iff.mp H
 obtain⟨t186,A30,H⟩:=H
 try dsimp only at H
 have A3:=am A30
 clear A30
 obtain rfl:=Option.some.inj H
 go_enter Tryz.func9,Tryz.ntmps9
 go_wp2_with (first |((with_reducible refine gate_dst (N:=2) rfl ?_);refine box_event ?hg (N:=2) ?hd (cs:=#[.bool a0_0,.slice A0_1 l0_1.length c0_1]) (t:=25) ?hr ?_;(case hd=>rfl);(case hg=>rfl);(case hr=>exact zh);intro gb184 hg w4 hbox hb;have BK184:=am (hbox);have GW184:=gw w hg;have GE184:=gw w hg;replace HB:=am (below_step zb hb);clear hb hbox hg) |((with_reducible refine gate_dst (N:=3) rfl ?_);refine box_event ?hg (N:=3) ?hd (cs:=#[.bool a1_0,.slice A1_1 l1_1.length c1_1]) (t:=25) ?hr ?_;(case hd=>rfl);(case hg=>rfl);(case hr=>exact zh);intro gb185 hg w5 hbox hb;have BK185:=am (hbox);have GW185:=gw w hg;have GE185:=gw w hg;replace HB:=am (below_step zb hb);have NB184_185:=nl BK184 hg;have NB185_184:=nr BK184 hg;replace BK184:=kb BK184 hb;clear hb hbox hg;have hnb6:=NB184_185.out;have hnc6:=NB185_184.out;have hcz7_0 : w5.cell? ⟨gb184,0,none⟩ = some (.bool a0_0):=(blk_cell BK184.out 0).trans rfl;have hcz7_1 : w5.cell? ⟨gb184,1,none⟩ = some (.slice A0_1 l0_1.length c0_1):=(blk_cell BK184.out 1).trans rfl;have hfz7_0:=blk_frozen BK184.out 0;have hfz7_1:=blk_frozen BK184.out 1;have hcz8_0 : w5.cell? ⟨gb185,0,none⟩ = some (.bool a1_0):=(blk_cell BK185.out 0).trans rfl;have hcz8_1 : w5.cell? ⟨gb185,1,none⟩ = some (.slice A1_1 l1_1.length c1_1):=(blk_cell BK185.out 1).trans rfl;have hfz8_0:=blk_frozen BK185.out 0;have hfz8_1:=blk_frozen BK185.out 1) |((with_reducible refine gate_callee (f:=33) rfl ?_);refine goesL_ (some 7) rfl rfl Tryz.func33 (by kernel_rfl) rfl #[.agg #[.bool a0_0,.slice A0_1 l0_1.length c0_1],.agg #[.bool a1_0,.slice A1_1 l1_1.length c1_1]] rfl zl ?_;(with_reducible refine(whetstonekit_SameInt.calls k a0_0 _ _ l0_1 a1_0 _ _ l1_1 t186 _ ?side1 ?side2 ?side3 ?side4 A3.out).mono ?_);(case side1=>repeat (first | exact(Kd.C_below HR0_1.out HB.out) |(with_reducible refine Kd.C_alloc ?_ _) |(with_reducible refine Kd.C_drewN ?_ _) |(with_reducible refine Kd.C_drew ?_)));(case side2=>exact HC0_1.out);(case side3=>repeat (first | exact(Kd.C_below HR1_1.out HB.out) |(with_reducible refine Kd.C_alloc ?_ _) |(with_reducible refine Kd.C_drewN ?_ _) |(with_reducible refine Kd.C_drew ?_)));(case side4=>exact HC1_1.out);rintro e w9 ⟨rfl,hb⟩;refine⟨_,rfl,?_⟩;replace BK184:=kb BK184 hb;replace BK185:=kb BK185 hb;replace HB:=am (below_step zb hb);(try clear hb);skip))
 go_ret
 exact⟨zf,zb⟩

/-! ### num_small: function 34 -/
def num_small.l0 : Nat→Int→Bool→List Int→Option (List Int×Bool)
 | 0,_,_,_=>none
 | k + 1,x0,x1,x5=>if x0 > 0 then(if x5.length < 35184372088832 then(num_small.l0 k (IntKind.u64.wrap (Int.tdiv x0 1000000000)) x1 (x5 ++ [(Int.tmod x0 1000000000) % 4294967296])) else(none)) else((num_made.f k x5 x1).bind fun bt191=>(some (bt191.1,bt191.2)))
def num_small.f (k : Nat) (a0 : Int) (a1 : Bool) : Option (List Int×Bool):=num_small.l0 k a0 a1 ([] : List Int)
theorem num_small.calls (k : Nat) (a0 : Int) (a1 : Bool) (r1 : List Int) (r2 : Bool) (w : World) (h : num_small.f k a0 a1 = some (r1,r2)) :
  Calls Tryz.prog 34 #[.int .u64 a0,.bool a1] w fun e w'=>∃ v0_ : Value,e = .returned (.agg #[v0_,.bool r2])∧Kd.R (Kd.int .u32) 60 w' w.heap.size (fun _=>True) v0_ r1∧Below w.heap.size w w':=by
 have hu54:=Tryz.underlying54
 have HB:=am (Below.refl w.heap.size w)
 have H : (num_small.l0 k a0 a1 ([] : List Int)) = some (r1,r2):=h
 clear h
 have H':=am H
 clear H
 go_enter Tryz.func34,Tryz.ntmps34
 go_wp2_with (first |((with_reducible refine gate_dst (N:=4) rfl ?_);refine box_event ?hg (N:=4) ?hd (cs:=#[.slice none 0 0,.bool false]) (t:=54) ?hr ?_;(case hd=>rfl);(case hg=>rfl);(case hr=>exact zh);intro gb187 hg w3 hbox hb;have BK187:=am (hbox);have GW187:=gw w hg;have GE187:=gw w hg;replace HB:=am (below_step zb hb);clear hb hbox hg))
 go_loopg [0,5] k (fun kq v0 v5 w'=>∃ (x0_1 : Int) (x5_1 : List Int),v0 = .int .u64 x0_1∧Aside0 (num_small.l0 kq x0_1 a1 x5_1 = some (r1,r2))∧Aside0 (kq≤k)∧Aside0 (Kd.R (Kd.int .u32) 60 w' w.heap.size (fun _=>True) v5 x5_1)∧Aside0 (w'.heap[gb187]? = some (.cells #[(.slice none 0 0),.bool false] 54 (0,0)))∧Aside0 (Below w.heap.size w w'))
 case atStart=>exact⟨(a0),(([] : List Int)),ze,H',⟨Nat.le_refl _⟩,⟨by first | exact Kd.R_nil _ _ _ _ _ | exact Kd.N_nil _ _ _ _ _ | exact Kd.V_nil _ _ _ _ _ | exact Kd.Q_nil _ _ _ _ _ | exact Kd.S_nil _ _ _ _ _⟩,⟨zk BK187.out⟩,⟨zb⟩⟩
 case round=>
  clear H'
  try clear p2
  try clear c3
  obtain⟨x0_1,x5_1,rfl,HA,HK1,HO_5,BK187,HB⟩:=hrel
  cases gk with
  | zero=>exact absurd HA.out (by simp [num_small.l0])
  | succ k1=>
   have H:=HA.out
   clear HA
   simp only [num_small.l0] at H
   by_cases c4 : x0_1 > 0
   ·rw [if_pos c4] at H
    have c4b0 : decide (0 < x0_1) = true:=decide_eq_true c4
    clear c4
    by_cases c5 : x5_1.length < 35184372088832
    ·rw [if_pos c5] at H
     have LMc5:=am c5
     clear c5
     obtain⟨y188,hy188⟩ : ∃ y_ : List Int,y_ = (x5_1 ++ [(Int.tmod x0_1 1000000000) % 4294967296]):=⟨_,rfl⟩
     replace H : (num_small.l0 k1 (IntKind.u64.wrap (Int.tdiv x0_1 1000000000)) a1 y188) = some (r1,r2):=by first |(rw [hy188];with_reducible exact H) |(have H2_:=(Option.bind_some _ _).symm.trans H;rw [hy188];with_reducible exact H2_) |(have H2_:=(Option.bind_some _ _).symm.trans H;with_reducible exact H2_) | with_reducible exact H |(rw [hy188];exact H) | exact H
     have Ny188:=am hy188
     clear hy188
     have H':=am H
     clear H
     go_wp2_with (first |((with_reducible refine gate_builtin (b:=.append) (xs:=#[.tmp 10,.tmp 14]) rfl ?_);at_builtin;refine Kd.R_append (Kd.int .u32) (w0:=w) w.heap.size rfl (.tmp 10) (.tmp 14) 23 60 (.int .u32 0) 4 rfl Tryz.underlying23 info60 rfl (by decide) (by omega) u5 x5_1 ((Int.tmod x0_1 1000000000) % 4294967296) [.int .u32 ((Int.tmod x0_1 1000000000) % 4294967296)] (fun _=>True) (fun _=>False) rfl rfl ?aP (fun _ hk=>hk.elim) ?aF ?aO ?aB ?aS ?aL ?_;(case aP=>exact rfl);(case aB=>exact zb);(case aF=>exact(fun _ _=>trivial));(case aO=>exact(zR HO_5.out));(case aS=>exact(below_size zb));(case aL=>have:=LMc5.out;omega);intro v189 w6 ho hb hg hat;rw [← Ny188.out] at ho;replace BK187:=am (blk_grown (zk BK187.out) hg (Kd.R_ne HO_5.out BK187.out (by decide)));replace HB:=am (hb);have HO190:=am (ho);clear HO_5;clear ho hb hg hat))
     go_roundg k1
     case measure=>have:=HK1.out;omega
     case rel=>exact⟨(IntKind.u64.wrap (Int.tdiv x0_1 1000000000)),(y188),ze,H',⟨by have:=HK1.out;omega⟩,⟨zR HO190.out⟩,⟨zk BK187.out⟩,⟨zb⟩⟩
    ·rw [if_neg c5] at H
     exact absurd H (by simp)
   ·rw [if_neg c4] at H
    have c4b0 : decide (0 < x0_1) = false:=decide_eq_false c4
    clear c4
    replace H:=Option.bind_eq_some_iff.mp H
    obtain⟨⟨t191,t194⟩,A70,H⟩:=H
    try dsimp only at H
    have A7:=am A70
    clear A70
    simp only [Option.some.injEq,Prod.mk.injEq] at H
    obtain⟨rfl,rfl⟩:=H
    obtain⟨Ao8,co8,eo8⟩:=Kd.R_slice HO_5.out
    subst eo8
    go_wp2_with (first |((with_reducible refine gate_callee (f:=29) rfl ?_);refine goesL_ (some 18) rfl rfl Tryz.func29 (by kernel_rfl) rfl #[.slice Ao8 x5_1.length co8,.bool a1] rfl zl ?_;(with_reducible refine(num_made.calls k1 _ _ x5_1 a1 t191 t194 _ ?side1 ?side2 A7.out).mono ?_);(case side1=>exact zC (Kd.R_reads' HO_5.out).2.2);(case side2=>exact(Kd.R_reads' HO_5.out).2.1);rintro e w9 ⟨v192,rfl,ho0,hb⟩;refine⟨_,rfl,?_⟩;have HO193:=am (Kd.R_lower (Kd.R_new' ho0 (Kd.R_lt (zR HO_5.out))) (below_size zb));replace HO_5:=re HO_5 (Kd.R_base ho0) hb;replace BK187:=kb BK187 hb;replace HB:=am (below_step zb hb);(try clear hb);(try clear ho0);obtain⟨Ao10,co10,eo10⟩:=Kd.R_slice HO193.out;subst eo10;have hcz11_0 : w9.cell? ⟨gb187,0,none⟩ = some (.slice none 0 0):=(blk_cell BK187.out 0).trans rfl;have hcz11_1 : w9.cell? ⟨gb187,1,none⟩ = some (.bool false):=(blk_cell BK187.out 1).trans rfl;have hfz11_0:=blk_frozen BK187.out 0;have hfz11_1:=blk_frozen BK187.out 1))
    refine bodyPost_ret (results_cell_row rfl _ _ gb187 54 #[.slice Ao10 t191.length co10,.bool t194] (0,0) _ rfl (by refine zk ?_;refine blk_put (cs:=#[.slice Ao10 t191.length co10,.bool false]) ?_ 1 _ rfl;refine zk ?_;refine blk_put (cs:=#[.slice none 0 0,.bool false]) ?_ 0 _ rfl;refine zk ?_;exact BK187.out) Tryz.underlying54 rfl (by kernel_rfl)) rfl ?_
    exact⟨_,zf,by refine zR ?_;exact Kd.R_mono (Kd.R_far (p:=⟨gb187,1,none⟩) (Kd.R_far (p:=⟨gb187,0,none⟩) (Kd.R_types HO193.out BK187.out (by decide)) (fun _ hk=>hk.2) (.slice Ao10 t191.length co10)) (fun _ hk=>hk.2) (.bool t194)) (fun _ hk=>trivial),zb⟩

/-! ### num_Of: function 10 -/
def num_Of.f (k : Nat) (a0 : Int) : Option (Bool×List Int):=if a0 < 0 then((num_small.f k (IntKind.u64.wrap (-(IntKind.u64.wrap (a0)))) true).bind fun bt196=>((num_number_out.f bt196.1 bt196.2).bind fun bt200=>(some (bt200.1,bt200.2)))) else((num_small.f k (IntKind.u64.wrap (a0)) false).bind fun bt204=>((num_number_out.f bt204.1 bt204.2).bind fun bt208=>(some (bt208.1,bt208.2))))
theorem num_Of.calls (k : Nat) (a0 : Int) (r1 : Bool) (r2 : List Int) (w : World) (h : num_Of.f k a0 = some (r1,r2)) :
  Calls Tryz.prog 10 #[.int .i64 a0] w fun e w'=>∃ v1_ : Value,e = .returned (.agg #[.bool r1,v1_])∧Kd.V (Kd.int .u32) 60 w' w.heap.size (fun k_=>(w.heap.size≤k_)) v1_ r2∧Below w.heap.size w w':=by
 have hu25:=Tryz.underlying25
 have HB:=am (Below.refl w.heap.size w)
 have H : (if a0 < 0 then((num_small.f k (IntKind.u64.wrap (-(IntKind.u64.wrap (a0)))) true).bind fun bt196=>((num_number_out.f bt196.1 bt196.2).bind fun bt200=>(some (bt200.1,bt200.2)))) else((num_small.f k (IntKind.u64.wrap (a0)) false).bind fun bt204=>((num_number_out.f bt204.1 bt204.2).bind fun bt208=>(some (bt208.1,bt208.2))))) = some (r1,r2):=h
 clear h
 by_cases c2 : a0 < 0
 ·rw [if_pos c2] at H
  have c2b0 : decide (a0 < 0) = true:=decide_eq_true c2
  clear c2
  replace H:=Option.bind_eq_some_iff.mp H
  obtain⟨⟨t196,t199⟩,A30,H⟩:=H
  try dsimp only at H
  have A3:=am A30
  clear A30
  replace H:=Option.bind_eq_some_iff.mp H
  obtain⟨⟨t200,t201⟩,A40,H⟩:=H
  try dsimp only at H
  have A4:=am A40
  clear A40
  simp only [Option.some.injEq,Prod.mk.injEq] at H
  obtain⟨rfl,rfl⟩:=H
  go_enter Tryz.func10,Tryz.ntmps10
  go_wp2_with (first |((with_reducible refine gate_dst (N:=2) rfl ?_);refine box_event ?hg (N:=2) ?hd (cs:=#[.bool false,.slice none 0 0]) (t:=25) ?hr ?_;(case hd=>rfl);(case hg=>rfl);(case hr=>exact zh);intro gb195 hg w5 hbox hb;have BK195:=am (hbox);have GW195:=gw w hg;have GE195:=gw w hg;replace HB:=am (below_step zb hb);clear hb hbox hg) |((with_reducible refine gate_callee (f:=34) rfl ?_);refine goesL_ (some 8) rfl rfl Tryz.func34 (by kernel_rfl) rfl #[.int .u64 (IntKind.u64.wrap (-(IntKind.u64.wrap (a0)))),.bool true] rfl zl ?_;(with_reducible refine(num_small.calls k (IntKind.u64.wrap (-(IntKind.u64.wrap (a0)))) true t196 t199 _ A3.out).mono ?_);rintro e w6 ⟨v197,rfl,ho0,hb⟩;refine⟨_,rfl,?_⟩;have HO198:=am (Kd.R_lower (Kd.R_newM (M:=fun k_=>(w.heap.size≤k_)) ho0 (below_size zb) (fun k_ h_=>h_)) (below_size zb));replace BK195:=kb BK195 hb;replace HB:=am (below_step zb hb);(try clear hb);(try clear ho0);obtain⟨Ao7,co7,eo7⟩:=Kd.R_slice HO198.out;subst eo7) |((with_reducible refine gate_callee (f:=30) rfl ?_);refine goesL_ (some 9) rfl rfl Tryz.func30 (by kernel_rfl) rfl #[.agg #[.slice Ao7 t196.length co7,.bool t199]] rfl zl ?_;(with_reducible refine(num_number_out.calls (fun k_=>some k_ = (.slice Ao7 t196.length co7 : Value).ownBlock) _ _ t196 t199 t200 t201 _ ?side1 A4.out).mono ?_);(case side1=>exact Kd.R_V (Kd.R_tight rfl (Kd.R_types (HO198.out) BK195.out (by decide))));rintro e w8 ⟨v202,rfl,ho0,hb⟩;refine⟨_,rfl,?_⟩;have HO203:=am (Kd.V_lower (Kd.V_mono (ok':=fun k_=>(w.heap.size≤k_)∧k_≠gb195) ho0 (fun k_ hk_=>⟨Or.elim hk_ (fun hs_=>((Kd.R_types (HO198.out) BK195.out (by decide)).1 k_ hs_.symm).1.1) (fun hn_=>(Nat.le_trans (below_size zb) hn_)),Or.elim hk_ (fun hs_=>((Kd.R_types (HO198.out) BK195.out (by decide)).1 k_ hs_.symm).2) (fun hn_=>(fb BK195 k_ hn_))⟩)) (below_size zb));replace HO198:=rb HO198 hb;replace BK195:=kb BK195 hb;replace HB:=am (below_step zb hb);(try clear hb);(try clear ho0);have hcz9_0 : w8.cell? ⟨gb195,0,none⟩ = some (.bool false):=(blk_cell BK195.out 0).trans rfl;have hcz9_1 : w8.cell? ⟨gb195,1,none⟩ = some (.slice none 0 0):=(blk_cell BK195.out 1).trans rfl;have hfz9_0:=blk_frozen BK195.out 0;have hfz9_1:=blk_frozen BK195.out 1;obtain⟨Ao10,co10,eo10⟩:=Kd.V_slice HO203.out;subst eo10))
  refine bodyPost_ret (results_cell_row rfl _ _ gb195 25 #[.bool t200,.slice Ao10 t201.length co10] (0,0) _ rfl (by refine zk ?_;refine blk_put (cs:=#[.bool t200,.slice none 0 0]) ?_ 1 _ rfl;refine zk ?_;refine blk_put (cs:=#[.bool false,.slice none 0 0]) ?_ 0 _ rfl;refine zk ?_;exact BK195.out) Tryz.underlying25 rfl (by kernel_rfl)) rfl ?_
  exact⟨_,zf,by refine zV ?_;exact Kd.V_mono (Kd.V_far (p:=⟨gb195,1,none⟩) (Kd.V_far (p:=⟨gb195,0,none⟩) (Kd.V_mono HO203.out (fun k_ hk=>(⟨hk,hk.2⟩ : _∧k_≠gb195))) (fun _ hk=>hk.2) (.bool t200)) (fun _ hk=>hk.2) (.slice Ao10 t201.length co10)) (fun _ hk=>hk.1.1),zb⟩
 ·rw [if_neg c2] at H
  have c2b0 : decide (a0 < 0) = false:=decide_eq_false c2
  clear c2
  replace H:=Option.bind_eq_some_iff.mp H
  obtain⟨⟨t204,t207⟩,A110,H⟩:=H
  try dsimp only at H
  have A11:=am A110
  clear A110
  replace H:=Option.bind_eq_some_iff.mp H
  obtain⟨⟨t208,t209⟩,A120,H⟩:=H
  try dsimp only at H
  have A12:=am A120
  clear A120
  simp only [Option.some.injEq,Prod.mk.injEq] at H
  obtain⟨rfl,rfl⟩:=H
  go_enter Tryz.func10,Tryz.ntmps10
  go_wp2_with (first |((with_reducible refine gate_dst (N:=2) rfl ?_);refine box_event ?hg (N:=2) ?hd (cs:=#[.bool false,.slice none 0 0]) (t:=25) ?hr ?_;(case hd=>rfl);(case hg=>rfl);(case hr=>exact zh);intro gb195 hg w13 hbox hb;have BK195:=am (hbox);have GW195:=gw w hg;have GE195:=gw w hg;replace HB:=am (below_step zb hb);clear hb hbox hg) |((with_reducible refine gate_callee (f:=34) rfl ?_);refine goesL_ (some 12) rfl rfl Tryz.func34 (by kernel_rfl) rfl #[.int .u64 (IntKind.u64.wrap (a0)),.bool false] rfl zl ?_;(with_reducible refine(num_small.calls k (IntKind.u64.wrap (a0)) false t204 t207 _ A11.out).mono ?_);rintro e w14 ⟨v205,rfl,ho0,hb⟩;refine⟨_,rfl,?_⟩;have HO206:=am (Kd.R_lower (Kd.R_newM (M:=fun k_=>(w.heap.size≤k_)) ho0 (below_size zb) (fun k_ h_=>h_)) (below_size zb));replace BK195:=kb BK195 hb;replace HB:=am (below_step zb hb);(try clear hb);(try clear ho0);obtain⟨Ao15,co15,eo15⟩:=Kd.R_slice HO206.out;subst eo15) |((with_reducible refine gate_callee (f:=30) rfl ?_);refine goesL_ (some 13) rfl rfl Tryz.func30 (by kernel_rfl) rfl #[.agg #[.slice Ao15 t204.length co15,.bool t207]] rfl zl ?_;(with_reducible refine(num_number_out.calls (fun k_=>some k_ = (.slice Ao15 t204.length co15 : Value).ownBlock) _ _ t204 t207 t208 t209 _ ?side1 A12.out).mono ?_);(case side1=>exact Kd.R_V (Kd.R_tight rfl (Kd.R_types (HO206.out) BK195.out (by decide))));rintro e w16 ⟨v210,rfl,ho0,hb⟩;refine⟨_,rfl,?_⟩;have HO211:=am (Kd.V_lower (Kd.V_mono (ok':=fun k_=>(w.heap.size≤k_)∧k_≠gb195) ho0 (fun k_ hk_=>⟨Or.elim hk_ (fun hs_=>((Kd.R_types (HO206.out) BK195.out (by decide)).1 k_ hs_.symm).1.1) (fun hn_=>(Nat.le_trans (below_size zb) hn_)),Or.elim hk_ (fun hs_=>((Kd.R_types (HO206.out) BK195.out (by decide)).1 k_ hs_.symm).2) (fun hn_=>(fb BK195 k_ hn_))⟩)) (below_size zb));replace HO206:=rb HO206 hb;replace BK195:=kb BK195 hb;replace HB:=am (below_step zb hb);(try clear hb);(try clear ho0);have hcz17_0 : w16.cell? ⟨gb195,0,none⟩ = some (.bool false):=(blk_cell BK195.out 0).trans rfl;have hcz17_1 : w16.cell? ⟨gb195,1,none⟩ = some (.slice none 0 0):=(blk_cell BK195.out 1).trans rfl;have hfz17_0:=blk_frozen BK195.out 0;have hfz17_1:=blk_frozen BK195.out 1;obtain⟨Ao18,co18,eo18⟩:=Kd.V_slice HO211.out;subst eo18))
  refine bodyPost_ret (results_cell_row rfl _ _ gb195 25 #[.bool t208,.slice Ao18 t209.length co18] (0,0) _ rfl (by refine zk ?_;refine blk_put (cs:=#[.bool t208,.slice none 0 0]) ?_ 1 _ rfl;refine zk ?_;refine blk_put (cs:=#[.bool false,.slice none 0 0]) ?_ 0 _ rfl;refine zk ?_;exact BK195.out) Tryz.underlying25 rfl (by kernel_rfl)) rfl ?_
  exact⟨_,zf,by refine zV ?_;exact Kd.V_mono (Kd.V_far (p:=⟨gb195,1,none⟩) (Kd.V_far (p:=⟨gb195,0,none⟩) (Kd.V_mono HO211.out (fun k_ hk=>(⟨hk,hk.2⟩ : _∧k_≠gb195))) (fun _ hk=>hk.2) (.bool t208)) (fun _ hk=>hk.2) (.slice Ao18 t209.length co18)) (fun _ hk=>hk.1.1),zb⟩

end Go.Proofs.YtcbohpmdeboeoaaGreatDoorRR.X

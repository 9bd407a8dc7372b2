-- Printed by xprint.py, this session's own program (wip/tool), out of the translation. Lean checks it.
import Derived.Test.YtcbohpmdeboeoaaGreatDoorRRZ
import Derived.Test.YtcbohpmdeboeoaaGreatDoorRRX0
import Derived.Test.YtcbohpmdeboeoaaGreatDoorRRX1
import Derived.Test.YtcbohpmdeboeoaaGreatDoorRRX2
import Derived.Test.YtcbohpmdeboeoaaGreatDoorRRX4
import Derived.Test.YtcbohpmdeboeoaaGreatDoorRRX8
namespace Go.Proofs.YtcbohpmdeboeoaaGreatDoorRR.X
open Go.Proofs.YtcbohpmdeboeoaaGreatDoorRR.Z
open Go.RowKit Go.Proofs.YtcbohpmdeboeoaaGreatDoorRRW.PrintWords Go.Proofs.YtcbohpmdeboeoaaGreatDoorRRW.PrintLast Go.Proofs.YtcbohpmdeboeoaaGreatDoorRRW.PrintMore
open List renaming setIfInBounds_toArray → sA, set_cons_zero → sZ, set_cons_succ → sS
open Aside0 renaming mk → am
open Bool renaming true → tt, false → ff
set_option maxHeartbeats 8000000
set_option maxRecDepth 100000
attribute [local go_sem] max2_int min2_int max_two min_two max_three min_three max_four min_four   -- for this text's walks alone
set_option linter.unusedVariables false
set_option linter.unusedSimpArgs false

/-! ### num_Text: function 23 -/
def num_Text.f (k : Nat) (a0_0 : Bool) (l0_1 : List Int) : Option (ByteArray):=(num_of.f k a0_0 l0_1).bind fun bt365=>(if bt365.2 = true then((nat_Text.f k bt365.1).bind fun t370=>(if 1 + t370.size≤9223372036854775807 then(some ((⟨#[45]⟩ : ByteArray) ++ t370)) else(none))) else((nat_Text.f k bt365.1).bind fun t371=>(some t371)))
theorem num_Text.calls (k : Nat) (a0_0 : Bool) (A0_1 : Option Addr) (c0_1 : Nat) (l0_1 : List Int) (r : ByteArray) (w : World) (hr0_1 : Kd.C (Kd.int .u32) w A0_1 l0_1.length l0_1) (hc0_1 : l0_1.length≤c0_1) (hG : GW w) (h : num_Text.f k a0_0 l0_1 = some r) :
  Calls Tryz.prog 23 #[.agg #[.bool a0_0,.slice A0_1 l0_1.length c0_1]] w fun e w'=>e = .returned (.string r)∧Below w.heap.size w w':=by
 have hu25:=Tryz.underlying25
 have hu54:=Tryz.underlying54
 have HG:=am hG
 clear hG
 have HR0_1:=am hr0_1
 have HC0_1:=am hc0_1
 clear hr0_1 hc0_1
 have HB:=am (Below.refl w.heap.size w)
 have H : ((num_of.f k a0_0 l0_1).bind fun bt365=>(if bt365.2 = true then((nat_Text.f k bt365.1).bind fun t370=>(if 1 + t370.size≤9223372036854775807 then(some ((⟨#[45]⟩ : ByteArray) ++ t370)) else(none))) else((nat_Text.f k bt365.1).bind fun t371=>(some t371)))) = some r:=h
 clear h
 replace H:=Option.bind_eq_some_iff.mp H
 obtain⟨⟨t365,t368⟩,A20,H⟩:=H
 try dsimp only at H
 have A2:=am A20
 clear A20
 by_cases c3 : t368 = true
 ·subst c3
  have H1 : ((nat_Text.f k t365).bind fun t370=>(if 1 + t370.size≤9223372036854775807 then(some ((⟨#[45]⟩ : ByteArray) ++ t370)) else(none))) = some r:=by rw [if_pos rfl] at H;exact H
  clear H
  have H:=H1
  clear H1
  replace H:=Option.bind_eq_some_iff.mp H
  obtain⟨t370,A40,H⟩:=H
  try dsimp only at H
  have A4:=am A40
  clear A40
  by_cases c5 : 1 + t370.size≤9223372036854775807
  ·rw [if_pos c5] at H
   have c5b0:=eq_true c5
   have c5b1 : decide (1 + t370.size≤9223372036854775807) = true:=decide_eq_true c5
   try have c5b2 : (9223372036854775807 < 1 + t370.size) = False:=eq_false (Nat.not_lt.2 c5)
   obtain rfl:=Option.some.inj H
   go_enter Tryz.func23,Tryz.ntmps23
   go_wp2_with (first |((with_reducible refine gate_dst (N:=1) rfl ?_);refine box_event ?hg (N:=1) ?hd (cs:=#[.bool a0_0,.slice A0_1 l0_1.length c0_1]) (t:=25) ?hr ?_;(case hd=>rfl);(case hg=>rfl);(case hr=>exact zh);intro gb364 hg w6 hbox hb;have BK364:=am (hbox);have GW364:=gw w hg;have GE364:=gw w hg;replace HB:=am (below_step zb hb);clear hb hbox hg;have hcz7_0 : w6.cell? ⟨gb364,0,none⟩ = some (.bool a0_0):=(blk_cell BK364.out 0).trans rfl;have hcz7_1 : w6.cell? ⟨gb364,1,none⟩ = some (.slice A0_1 l0_1.length c0_1):=(blk_cell BK364.out 1).trans rfl;have hfz7_0:=blk_frozen BK364.out 0;have hfz7_1:=blk_frozen BK364.out 1) |((with_reducible refine gate_callee (f:=49) rfl ?_);refine goesL_ (some 5) rfl rfl Tryz.func49 (by kernel_rfl) rfl #[.agg #[.bool a0_0,.slice A0_1 l0_1.length c0_1]] rfl zl ?_;(with_reducible refine(num_of.calls k a0_0 _ _ l0_1 t365 true _ ?side1 ?side2 A2.out).mono ?_);(case side1=>repeat (first | exact(Kd.C_below HR0_1.out HB.out) |(with_reducible refine Kd.C_alloc ?_ _) |(with_reducible refine Kd.C_drewN ?_ _) |(with_reducible refine Kd.C_drew ?_)));(case side2=>exact HC0_1.out);rintro e w8 ⟨v366,rfl,ho0,hb⟩;refine⟨_,rfl,?_⟩;have HO367:=am (Kd.R_lower ho0 (below_size zb));replace BK364:=kb BK364 hb;replace HB:=am (below_step zb hb);(try clear hb);(try clear ho0)) |((with_reducible refine gate_dst (N:=3) rfl ?_);refine box_event ?hg (N:=3) ?hd (cs:=#[.slice none 0 0,.bool false]) (t:=54) ?hr ?_;(case hd=>rfl);(case hg=>rfl);(case hr=>exact zh);intro gb369 hg w9 hbox hb;replace HO367:=rb HO367 hb;have BK369:=am (hbox);have GW369:=gw w hg;have GE369:=gw w hg;replace HB:=am (below_step zb hb);have NB364_369:=nl BK364 hg;have NB369_364:=nr BK364 hg;replace BK364:=kb BK364 hb;clear hb hbox hg;obtain⟨Ao10,co10,eo10⟩:=Kd.R_slice HO367.out;subst eo10;have hnb11:=NB369_364.out;have hnc11:=NB364_369.out;have hcz12_0 : w9.cell? ⟨gb369,0,none⟩ = some (.slice none 0 0):=(blk_cell BK369.out 0).trans rfl;have hcz12_1 : w9.cell? ⟨gb369,1,none⟩ = some (.bool false):=(blk_cell BK369.out 1).trans rfl;have hfz12_0:=blk_frozen BK369.out 0;have hfz12_1:=blk_frozen BK369.out 1) |((with_reducible refine gate_callee (f:=51) rfl ?_);refine goesL_ (some 11) rfl rfl Tryz.func51 (by kernel_rfl) rfl #[.slice Ao10 t365.length co10] rfl zl ?_;(with_reducible refine(nat_Text.calls k _ _ t365 t370 _ ?side1 ?side2 ?side3 A4.out).mono ?_);(case side1=>refine(Kd.R_reads' (e:=60) (base:=w.heap.size) (ok:=fun k_=>True) (n:=t365.length) (c:=co10) ?_).2.2;exact(by refine zR ?_;exact(Kd.R_mono (Kd.R_far (p:=⟨gb369,1,none⟩) (Kd.R_far (p:=⟨gb369,0,none⟩) (Kd.R_types HO367.out BK369.out (by decide)) (fun _ hk=>hk.2) (.slice Ao10 t365.length co10)) (fun _ hk=>hk.2) (.bool true)) (fun _ h_=>h_.1))));(case side2=>exact(Kd.R_reads' HO367.out).2.1);(case side3=>exact GW.below HG.out zb);rintro e w13 ⟨rfl,hb⟩;refine⟨_,rfl,?_⟩;replace HO367:=am (Kd.R_below (by refine zR ?_;exact(Kd.R_mono (Kd.R_far (p:=⟨gb369,1,none⟩) (Kd.R_far (p:=⟨gb369,0,none⟩) (Kd.R_types HO367.out BK369.out (by decide)) (fun _ hk=>hk.2) (.slice Ao10 t365.length co10)) (fun _ hk=>hk.2) (.bool true)) (fun _ h_=>h_.1))) hb);replace BK364:=am (blk_below (g:=gb364) (o:=.cells #[.bool a0_0,.slice A0_1 l0_1.length c0_1] 25 (0,0)) (by refine zk ?_;refine blk_far ?_ NB364_369.out _;refine zk ?_;refine blk_far ?_ NB364_369.out _;refine zk ?_;exact BK364.out) hb);replace BK369:=am (blk_below (g:=gb369) (o:=.cells #[.slice Ao10 t365.length co10,.bool true] 54 (0,0)) (by refine zk ?_;refine blk_put (cs:=#[.slice Ao10 t365.length co10,.bool false]) ?_ 1 _ rfl;refine zk ?_;refine blk_put (cs:=#[.slice none 0 0,.bool false]) ?_ 0 _ rfl;refine zk ?_;exact BK369.out) hb);replace HB:=am (below_step zb hb);(try clear hb);skip))
   go_ret
   exact⟨zf,zb⟩
  ·rw [if_neg c5] at H
   exact absurd H (by simp)
 ·replace c3:=Bool.eq_false_iff.mpr c3
  subst c3
  have H1 : ((nat_Text.f k t365).bind fun t371=>(some t371)) = some r:=by rw [if_neg (show ¬ (false = true) by decide)] at H;exact H
  clear H
  have H:=H1
  clear H1
  replace H:=Option.bind_eq_some_iff.mp H
  obtain⟨t371,A140,H⟩:=H
  try dsimp only at H
  have A14:=am A140
  clear A140
  obtain rfl:=Option.some.inj H
  go_enter Tryz.func23,Tryz.ntmps23
  go_wp2_with (first |((with_reducible refine gate_dst (N:=1) rfl ?_);refine box_event ?hg (N:=1) ?hd (cs:=#[.bool a0_0,.slice A0_1 l0_1.length c0_1]) (t:=25) ?hr ?_;(case hd=>rfl);(case hg=>rfl);(case hr=>exact zh);intro gb364 hg w15 hbox hb;have BK364:=am (hbox);have GW364:=gw w hg;have GE364:=gw w hg;replace HB:=am (below_step zb hb);clear hb hbox hg;have hcz16_0 : w15.cell? ⟨gb364,0,none⟩ = some (.bool a0_0):=(blk_cell BK364.out 0).trans rfl;have hcz16_1 : w15.cell? ⟨gb364,1,none⟩ = some (.slice A0_1 l0_1.length c0_1):=(blk_cell BK364.out 1).trans rfl;have hfz16_0:=blk_frozen BK364.out 0;have hfz16_1:=blk_frozen BK364.out 1) |((with_reducible refine gate_callee (f:=49) rfl ?_);refine goesL_ (some 5) rfl rfl Tryz.func49 (by kernel_rfl) rfl #[.agg #[.bool a0_0,.slice A0_1 l0_1.length c0_1]] rfl zl ?_;(with_reducible refine(num_of.calls k a0_0 _ _ l0_1 t365 false _ ?side1 ?side2 A2.out).mono ?_);(case side1=>repeat (first | exact(Kd.C_below HR0_1.out HB.out) |(with_reducible refine Kd.C_alloc ?_ _) |(with_reducible refine Kd.C_drewN ?_ _) |(with_reducible refine Kd.C_drew ?_)));(case side2=>exact HC0_1.out);rintro e w17 ⟨v366,rfl,ho0,hb⟩;refine⟨_,rfl,?_⟩;have HO367:=am (Kd.R_lower ho0 (below_size zb));replace BK364:=kb BK364 hb;replace HB:=am (below_step zb hb);(try clear hb);(try clear ho0)) |((with_reducible refine gate_dst (N:=3) rfl ?_);refine box_event ?hg (N:=3) ?hd (cs:=#[.slice none 0 0,.bool false]) (t:=54) ?hr ?_;(case hd=>rfl);(case hg=>rfl);(case hr=>exact zh);intro gb369 hg w18 hbox hb;replace HO367:=rb HO367 hb;have BK369:=am (hbox);have GW369:=gw w hg;have GE369:=gw w hg;replace HB:=am (below_step zb hb);have NB364_369:=nl BK364 hg;have NB369_364:=nr BK364 hg;replace BK364:=kb BK364 hb;clear hb hbox hg;obtain⟨Ao19,co19,eo19⟩:=Kd.R_slice HO367.out;subst eo19;have hnb20:=NB369_364.out;have hnc20:=NB364_369.out;have hcz21_0 : w18.cell? ⟨gb369,0,none⟩ = some (.slice none 0 0):=(blk_cell BK369.out 0).trans rfl;have hcz21_1 : w18.cell? ⟨gb369,1,none⟩ = some (.bool false):=(blk_cell BK369.out 1).trans rfl;have hfz21_0:=blk_frozen BK369.out 0;have hfz21_1:=blk_frozen BK369.out 1) |((with_reducible refine gate_callee (f:=51) rfl ?_);refine goesL_ (some 16) rfl rfl Tryz.func51 (by kernel_rfl) rfl #[.slice Ao19 t365.length co19] rfl zl ?_;(with_reducible refine(nat_Text.calls k _ _ t365 t371 _ ?side1 ?side2 ?side3 A14.out).mono ?_);(case side1=>refine(Kd.R_reads' (e:=60) (base:=w.heap.size) (ok:=fun k_=>True) (n:=t365.length) (c:=co19) ?_).2.2;exact(by refine zR ?_;exact(Kd.R_mono (Kd.R_far (p:=⟨gb369,1,none⟩) (Kd.R_far (p:=⟨gb369,0,none⟩) (Kd.R_types HO367.out BK369.out (by decide)) (fun _ hk=>hk.2) (.slice Ao19 t365.length co19)) (fun _ hk=>hk.2) (.bool false)) (fun _ h_=>h_.1))));(case side2=>exact(Kd.R_reads' HO367.out).2.1);(case side3=>exact GW.below HG.out zb);rintro e w22 ⟨rfl,hb⟩;refine⟨_,rfl,?_⟩;replace HO367:=am (Kd.R_below (by refine zR ?_;exact(Kd.R_mono (Kd.R_far (p:=⟨gb369,1,none⟩) (Kd.R_far (p:=⟨gb369,0,none⟩) (Kd.R_types HO367.out BK369.out (by decide)) (fun _ hk=>hk.2) (.slice Ao19 t365.length co19)) (fun _ hk=>hk.2) (.bool false)) (fun _ h_=>h_.1))) hb);replace BK364:=am (blk_below (g:=gb364) (o:=.cells #[.bool a0_0,.slice A0_1 l0_1.length c0_1] 25 (0,0)) (by refine zk ?_;refine blk_far ?_ NB364_369.out _;refine zk ?_;refine blk_far ?_ NB364_369.out _;refine zk ?_;exact BK364.out) hb);replace BK369:=am (blk_below (g:=gb369) (o:=.cells #[.slice Ao19 t365.length co19,.bool false] 54 (0,0)) (by refine zk ?_;refine blk_put (cs:=#[.slice Ao19 t365.length co19,.bool false]) ?_ 1 _ rfl;refine zk ?_;refine blk_put (cs:=#[.slice none 0 0,.bool false]) ?_ 0 _ rfl;refine zk ?_;exact BK369.out) hb);replace HB:=am (below_step zb hb);(try clear hb);skip))
  go_ret
  exact⟨zf,zb⟩

/-! ### nat_Cmp: function 82 -/
def nat_Cmp.f (k : Nat) (l0 : List Int) (l1 : List Int) : Option (Int):=(nat_of.f k l0).bind fun t372=>((nat_of.f k l1).bind fun t375=>((nat_number_compare.f k t372 t375).bind fun t378=>(some t378)))
theorem nat_Cmp.calls (k : Nat) (A0 : Option Addr) (c0 : Nat) (l0 : List Int) (A1 : Option Addr) (c1 : Nat) (l1 : List Int) (r : Int) (w : World) (hr0 : Kd.C (Kd.int .u32) w A0 l0.length l0) (hc0 : l0.length≤c0) (hr1 : Kd.C (Kd.int .u32) w A1 l1.length l1) (hc1 : l1.length≤c1) (h : nat_Cmp.f k l0 l1 = some r) :
  Calls Tryz.prog 82 #[.slice A0 l0.length c0,.slice A1 l1.length c1] w fun e w'=>e = .returned (.int .i64 r)∧Below w.heap.size w w':=by
 have HR0:=am hr0
 have HC0:=am hc0
 clear hr0 hc0
 have HR1:=am hr1
 have HC1:=am hc1
 clear hr1 hc1
 have HB:=am (Below.refl w.heap.size w)
 have H : ((nat_of.f k l0).bind fun t372=>((nat_of.f k l1).bind fun t375=>((nat_number_compare.f k t372 t375).bind fun t378=>(some t378)))) = some r:=h
 clear h
 replace H:=Option.bind_eq_some_iff.mp H
 obtain⟨t372,A30,H⟩:=H
 try dsimp only at H
 have A3:=am A30
 clear A30
 replace H:=Option.bind_eq_some_iff.mp H
 obtain⟨t375,A40,H⟩:=H
 try dsimp only at H
 have A4:=am A40
 clear A40
 replace H:=Option.bind_eq_some_iff.mp H
 obtain⟨t378,A50,H⟩:=H
 try dsimp only at H
 have A5:=am A50
 clear A50
 obtain rfl:=Option.some.inj H
 go_enter Tryz.func82,Tryz.ntmps82
 go_wp2_with (first |((with_reducible refine gate_callee (f:=72) rfl ?_);refine goesL_ (some 6) rfl rfl Tryz.func72 (by kernel_rfl) rfl #[.slice A0 l0.length c0] rfl zl ?_;(with_reducible refine(nat_of.calls k _ _ l0 t372 _ ?side1 ?side2 A3.out).mono ?_);(case side1=>exact zC HR0.out);(case side2=>exact HC0.out);rintro e w6 ⟨v373,rfl,ho0,hb⟩;refine⟨_,rfl,?_⟩;have HO374:=am (Kd.R_lower ho0 (below_size zb));replace HB:=am (below_step zb hb);(try clear hb);(try clear ho0)) |((with_reducible refine gate_callee (f:=72) rfl ?_);refine goesL_ (some 8) rfl rfl Tryz.func72 (by kernel_rfl) rfl #[.slice A1 l1.length c1] rfl zl ?_;(with_reducible refine(nat_of.calls k _ _ l1 t375 _ ?side1 ?side2 A4.out).mono ?_);(case side1=>repeat (first | exact(Kd.C_below HR1.out HB.out) |(with_reducible refine Kd.C_alloc ?_ _) |(with_reducible refine Kd.C_drewN ?_ _) |(with_reducible refine Kd.C_drew ?_)));(case side2=>exact HC1.out);rintro e w7 ⟨v376,rfl,ho0,hb⟩;refine⟨_,rfl,?_⟩;have HO377:=am (Kd.R_lower (Kd.R_new' ho0 (Kd.R_lt (zR HO374.out))) (below_size zb));replace HO374:=re HO374 (Kd.R_base ho0) hb;replace HB:=am (below_step zb hb);(try clear hb);(try clear ho0);obtain⟨Ao8,co8,eo8⟩:=Kd.R_slice HO374.out;subst eo8;obtain⟨Ao9,co9,eo9⟩:=Kd.R_slice HO377.out;subst eo9) |((with_reducible refine gate_callee (f:=88) rfl ?_);refine goesL_ (some 9) rfl rfl Tryz.func88 (by kernel_rfl) rfl #[.agg #[.slice Ao8 t372.length co8],.agg #[.slice Ao9 t375.length co9]] rfl zl ?_;(with_reducible refine(nat_number_compare.calls k _ _ t372 _ _ t375 t378 _ ?side1 ?side2 ?side3 ?side4 A5.out).mono ?_);(case side1=>exact zC (Kd.R_reads' HO374.out).2.2);(case side2=>exact(Kd.R_reads' HO374.out).2.1);(case side3=>exact zC (Kd.R_reads' HO377.out).2.2);(case side4=>exact(Kd.R_reads' HO377.out).2.1);rintro e w10 ⟨rfl,hb⟩;refine⟨_,rfl,?_⟩;replace HO374:=rb HO374 hb;replace HO377:=rb HO377 hb;replace HB:=am (below_step zb hb);(try clear hb);skip))
 go_ret
 exact⟨zf,zb⟩

/-! ### num_size_cmp: function 53 -/
def num_size_cmp.f (k : Nat) (l0_0 : List Int) (l1_0 : List Int) : Option (Int):=(nat_Cmp.f k l0_0 l1_0).bind fun t381=>(some t381)
theorem num_size_cmp.calls (k : Nat) (A0_0 : Option Addr) (c0_0 : Nat) (l0_0 : List Int) (A1_0 : Option Addr) (c1_0 : Nat) (l1_0 : List Int) (r : Int) (w : World) (hr0_0 : Kd.C (Kd.int .u32) w A0_0 l0_0.length l0_0) (hc0_0 : l0_0.length≤c0_0) (hr1_0 : Kd.C (Kd.int .u32) w A1_0 l1_0.length l1_0) (hc1_0 : l1_0.length≤c1_0) (h : num_size_cmp.f k l0_0 l1_0 = some r) :
  Calls Tryz.prog 53 #[.agg #[.slice A0_0 l0_0.length c0_0],.agg #[.slice A1_0 l1_0.length c1_0]] w fun e w'=>e = .returned (.int .i64 r)∧Below w.heap.size w w':=by
 have hu52:=Tryz.underlying52
 have HR0_0:=am hr0_0
 have HC0_0:=am hc0_0
 clear hr0_0 hc0_0
 have HR1_0:=am hr1_0
 have HC1_0:=am hc1_0
 clear hr1_0 hc1_0
 have HB:=am (Below.refl w.heap.size w)
 have H : ((nat_Cmp.f k l0_0 l1_0).bind fun t381=>(some t381)) = some r:=h
 clear h
 replace H:=Option.bind_eq_some_iff.mp H
 obtain⟨t381,A30,H⟩:=H
 try dsimp only at H
 have A3:=am A30
 clear A30
 obtain rfl:=Option.some.inj H
 go_enter Tryz.func53,Tryz.ntmps53
 go_wp2_with (first |((with_reducible refine gate_dst (N:=2) rfl ?_);refine box_event ?hg (N:=2) ?hd (cs:=#[.slice A0_0 l0_0.length c0_0]) (t:=52) ?hr ?_;(case hd=>rfl);(case hg=>rfl);(case hr=>exact zh);intro gb379 hg w4 hbox hb;have BK379:=am (hbox);have GW379:=gw w hg;have GE379:=gw w hg;replace HB:=am (below_step zb hb);clear hb hbox hg) |((with_reducible refine gate_dst (N:=3) rfl ?_);refine box_event ?hg (N:=3) ?hd (cs:=#[.slice A1_0 l1_0.length c1_0]) (t:=52) ?hr ?_;(case hd=>rfl);(case hg=>rfl);(case hr=>exact zh);intro gb380 hg w5 hbox hb;have BK380:=am (hbox);have GW380:=gw w hg;have GE380:=gw w hg;replace HB:=am (below_step zb hb);have NB379_380:=nl BK379 hg;have NB380_379:=nr BK379 hg;replace BK379:=kb BK379 hb;clear hb hbox hg;have hnb6:=NB379_380.out;have hnc6:=NB380_379.out;have hcz7_0 : w5.cell? ⟨gb379,0,none⟩ = some (.slice A0_0 l0_0.length c0_0):=(blk_cell BK379.out 0).trans rfl;have hfz7_0:=blk_frozen BK379.out 0;have hcz8_0 : w5.cell? ⟨gb380,0,none⟩ = some (.slice A1_0 l1_0.length c1_0):=(blk_cell BK380.out 0).trans rfl;have hfz8_0:=blk_frozen BK380.out 0) |((with_reducible refine gate_callee (f:=82) rfl ?_);refine goesL_ (some 9) rfl rfl Tryz.func82 (by kernel_rfl) rfl #[.slice A0_0 l0_0.length c0_0,.slice A1_0 l1_0.length c1_0] rfl zl ?_;(with_reducible refine(nat_Cmp.calls k _ _ l0_0 _ _ l1_0 t381 _ ?side1 ?side2 ?side3 ?side4 A3.out).mono ?_);(case side1=>repeat (first | exact(Kd.C_below HR0_0.out HB.out) |(with_reducible refine Kd.C_alloc ?_ _) |(with_reducible refine Kd.C_drewN ?_ _) |(with_reducible refine Kd.C_drew ?_)));(case side2=>exact HC0_0.out);(case side3=>repeat (first | exact(Kd.C_below HR1_0.out HB.out) |(with_reducible refine Kd.C_alloc ?_ _) |(with_reducible refine Kd.C_drewN ?_ _) |(with_reducible refine Kd.C_drew ?_)));(case side4=>exact HC1_0.out);rintro e w9 ⟨rfl,hb⟩;refine⟨_,rfl,?_⟩;replace BK379:=kb BK379 hb;replace BK380:=kb BK380 hb;replace HB:=am (below_step zb hb);(try clear hb);skip))
 go_ret
 exact⟨zf,zb⟩

-- NOT PRINTED: function 86 (nat_folded)

/-! ### nat_number_plus: function 87 -/
def nat_number_plus.l0 : Nat→List Int→Int→Int→List Int→List Int→Option (List Int)
 | 0,_,_,_,_,_=>none
 | k + 1,x5,x16,x17,x383000,x384000=>if x17 < x16 then((nat_digits_at.f x383000 x17).bind fun t388=>((nat_digits_at.f x384000 x17).bind fun t389=>(if 0≤x17 then(if x17 < (x5.length : Int) then(nat_number_plus.l0 k (x5.set (x17 : Int).toNat (IntKind.u64.wrap (t388 + t389))) x16 (wrap64 (x17 + 1)) x383000 x384000) else(none)) else(none)))) else((nat_carried.f k x5).bind fun t391=>(some t391))
def nat_number_plus.f (k : Nat) (l0_0 : List Int) (l1_0 : List Int) : Option (List Int):=if (l0_0.length : Int) < (l1_0.length : Int) then(if 0≤(l1_0.length : Int) then(if ((l1_0.length : Int) : Int).toNat≤35184372088832 then((some (List.replicate ((l1_0.length : Int) : Int).toNat 0 : List Int)).bind fun y385=>(nat_number_plus.l0 k y385 (y385.length : Int) 0 l0_0 l1_0)) else(none)) else(none)) else(if 0≤(l0_0.length : Int) then(if ((l0_0.length : Int) : Int).toNat≤35184372088832 then((some (List.replicate ((l0_0.length : Int) : Int).toNat 0 : List Int)).bind fun y394=>(nat_number_plus.l0 k y394 (y394.length : Int) 0 l0_0 l1_0)) else(none)) else(none))
def nat_number_plus.T5 : Bool×List (List Nat×List Nat):=(true,[([],[]),([],[]),([],[]),([2],[2]),([],[]),([3,4],[3,4]),([],[]),([6],[6]),([],[]),([7,8,5],[7,8]),([5,9],[5,9]),([0,1,0,1,2,3,4,5,6,7,8,9,10],[0,1]),([11,10,9,0,1,2,3,4,5,6,7,8,9,10],[10,11])])
def nat_number_plus.B5 : List Nat:=[0,0,0,4,0,28,0,64,0,508,1020,2047,4095]
theorem nat_number_plus.tab5 : rtab .any (opsOf Tryz.f87 5) = nat_number_plus.T5:=by kernel_rfl
theorem nat_number_plus.bits5 : waitsOk nat_number_plus.T5.2 nat_number_plus.B5 = true:=by kernel_rfl
theorem nat_number_plus.calls (k : Nat) (A0_0 : Option Addr) (c0_0 : Nat) (l0_0 : List Int) (A1_0 : Option Addr) (c1_0 : Nat) (l1_0 : List Int) (r : List Int) (w : World) (hr0_0 : Kd.C (Kd.int .u64) w A0_0 l0_0.length l0_0) (hc0_0 : l0_0.length≤c0_0) (hr1_0 : Kd.C (Kd.int .u64) w A1_0 l1_0.length l1_0) (hc1_0 : l1_0.length≤c1_0) (h : nat_number_plus.f k l0_0 l1_0 = some r) :
  Calls Tryz.prog 87 #[.agg #[.slice A0_0 l0_0.length c0_0],.agg #[.slice A1_0 l1_0.length c1_0]] w fun e w'=>∃ v0_ : Value,e = .returned (.agg #[v0_])∧Kd.R (Kd.int .u64) 59 w' w.heap.size (fun _=>True) v0_ r∧Below w.heap.size w w':=by
 have hu83:=Tryz.underlying83
 have HR0_0:=am hr0_0
 have HC0_0:=am hc0_0
 clear hr0_0 hc0_0
 have HR1_0:=am hr1_0
 have HC1_0:=am hc1_0
 clear hr1_0 hc1_0
 have HB:=am (Below.refl w.heap.size w)
 have H : (if (l0_0.length : Int) < (l1_0.length : Int) then(if 0≤(l1_0.length : Int) then(if ((l1_0.length : Int) : Int).toNat≤35184372088832 then((some (List.replicate ((l1_0.length : Int) : Int).toNat 0 : List Int)).bind fun y385=>(nat_number_plus.l0 k y385 (y385.length : Int) 0 l0_0 l1_0)) else(none)) else(none)) else(if 0≤(l0_0.length : Int) then(if ((l0_0.length : Int) : Int).toNat≤35184372088832 then((some (List.replicate ((l0_0.length : Int) : Int).toNat 0 : List Int)).bind fun y394=>(nat_number_plus.l0 k y394 (y394.length : Int) 0 l0_0 l1_0)) else(none)) else(none))) = some r:=h
 clear h
 by_cases c3 : (l0_0.length : Int) < (l1_0.length : Int)
 ·rw [if_pos c3] at H
  have c3i:=eq_true c3
  have c3b0 : decide ((l0_0.length : Int) < (l1_0.length : Int)) = true:=decide_eq_true c3
  have c3b1 : decide (l0_0.length < l1_0.length) = true:=decide_eq_true (Int.ofNat_lt.mp c3)
  clear c3
  by_cases c4 : 0≤(l1_0.length : Int)
  ·rw [if_pos c4] at H
   have c4b0:=eq_true c4
   have c4b1 : decide (0≤(l1_0.length : Int)) = true:=decide_eq_true c4
   clear c4
   by_cases c5 : ((l1_0.length : Int) : Int).toNat≤35184372088832
   ·rw [if_pos c5] at H
    have c5b0:=eq_true c5
    have c5b1 : decide (((l1_0.length : Int) : Int).toNat≤35184372088832) = true:=decide_eq_true c5
    clear c5
    obtain⟨y385,hy385⟩ : ∃ y_ : List Int,y_ = (List.replicate ((l1_0.length : Int) : Int).toNat 0):=⟨_,rfl⟩
    replace H : (nat_number_plus.l0 k y385 (y385.length : Int) 0 l0_0 l1_0) = some r:=by first |(rw [hy385];with_reducible exact H) |(have H2_:=(Option.bind_some _ _).symm.trans H;rw [hy385];with_reducible exact H2_) |(have H2_:=(Option.bind_some _ _).symm.trans H;with_reducible exact H2_) | with_reducible exact H |(rw [hy385];exact H) | exact H
    have Ny385:=am hy385
    clear hy385
    have H':=am H
    clear H
    go_enter Tryz.func87,Tryz.ntmps87
    go_wp2_with (first |((with_reducible refine gate_dst (N:=2) rfl ?_);refine box_event ?hg (N:=2) ?hd (cs:=#[.slice A0_0 l0_0.length c0_0]) (t:=83) ?hr ?_;(case hd=>rfl);(case hg=>rfl);(case hr=>exact zh);intro gb382 hg w6 hbox hb;have BK382:=am (hbox);have GW382:=gw w hg;have GE382:=gw w hg;replace HB:=am (below_step zb hb);clear hb hbox hg) |((with_reducible refine gate_dst (N:=3) rfl ?_);refine box_event ?hg (N:=3) ?hd (cs:=#[.slice A1_0 l1_0.length c1_0]) (t:=83) ?hr ?_;(case hd=>rfl);(case hg=>rfl);(case hr=>exact zh);intro gb383 hg w7 hbox hb;have BK383:=am (hbox);have GW383:=gw w hg;have GE383:=gw w hg;replace HB:=am (below_step zb hb);have NB382_383:=nl BK382 hg;have NB383_382:=nr BK382 hg;replace BK382:=kb BK382 hb;clear hb hbox hg) |((with_reducible refine gate_dst (N:=4) rfl ?_);refine box_event ?hg (N:=4) ?hd (cs:=#[.slice none 0 0]) (t:=83) ?hr ?_;(case hd=>rfl);(case hg=>rfl);(case hr=>exact zh);intro gb384 hg w8 hbox hb;have BK384:=am (hbox);have GW384:=gw w hg;have GE384:=gw w hg;replace HB:=am (below_step zb hb);have NB382_384:=nl BK382 hg;have NB384_382:=nr BK382 hg;replace BK382:=kb BK382 hb;have NB383_384:=nl BK383 hg;have NB384_383:=nr BK383 hg;replace BK383:=kb BK383 hb;clear hb hbox hg;have hnb9:=NB382_383.out;have hnc9:=NB383_382.out;have hnb10:=NB382_384.out;have hnc10:=NB384_382.out;have hcz11_0 : w8.cell? ⟨gb382,0,none⟩ = some (.slice A0_0 l0_0.length c0_0):=(blk_cell BK382.out 0).trans rfl;have hfz11_0:=blk_frozen BK382.out 0;have hnb12:=NB383_384.out;have hnc12:=NB384_383.out;have hcz13_0 : w8.cell? ⟨gb383,0,none⟩ = some (.slice A1_0 l1_0.length c1_0):=(blk_cell BK383.out 0).trans rfl;have hfz13_0:=blk_frozen BK383.out 0) |((with_reducible refine gate_dst (N:=14) rfl ?_);refine Kd.R_make (Kd.int .u64) _ 59 rfl (N:=14) rfl 77 _ _ rfl (l1_0.length : Int) rfl rfl Tryz.underlying77 (.int .u64 0) 8 info59 rfl (by decide) (by omega) 0 (ok:=fun _=>True) (okp:=fun _=>True) rfl (fun _ hk=>hk) trivial (of_decide_eq_true za) (Nat.le_trans (Nat.mul_le_mul_right _ (of_decide_eq_true za : (l1_0.length : Int).toNat≤35184372088832)) (by omega)) (Below.refl _ _) (Nat.le_refl _) ?_;intro v386 w14 ho15 hb hg_ hnew_;clear hg_ hnew_;(first | rw [← Ny385.out] at ho15 |(simp only [Int.reduceToNat] at ho15;rw [← Ny385.out] at ho15));have HO387:=am (Kd.R_lower ho15 (below_size zb));replace BK382:=kb BK382 hb;replace BK383:=kb BK383 hb;replace BK384:=kb BK384 hb;replace HB:=am (below_step zb hb);clear hb ho15;obtain⟨Ao16,co16,eo16⟩:=Kd.R_slice HO387.out;subst eo16))
    go_loopg [17] k (fun kq v17 w'=>∃ (x5_1 : List Int) (x17_1 : Int),v17 = .int .i64 x17_1∧Aside0 (nat_number_plus.l0 kq x5_1 (y385.length : Int) x17_1 l0_0 l1_0 = some r)∧Aside0 (kq≤k)∧Aside0 (Kd.R (Kd.int .u64) 59 w' w.heap.size (fun _=>True) (.slice Ao16 y385.length co16) x5_1)∧Aside0 (w'.heap[gb382]? = some (.cells #[(.slice A0_0 l0_0.length c0_0)] 83 (0,0)))∧Aside0 (w'.heap[gb383]? = some (.cells #[(.slice A1_0 l1_0.length c1_0)] 83 (0,0)))∧Aside0 (w'.heap[gb384]? = some (.cells #[(.slice none 0 0)] 83 (0,0)))∧Aside0 (Below w.heap.size w w'))
    case atStart=>exact⟨(y385),(0),ze,H',⟨Nat.le_refl _⟩,⟨zR HO387.out⟩,⟨zk BK382.out⟩,⟨zk BK383.out⟩,⟨zk BK384.out⟩,⟨zb⟩⟩
    case round=>
     clear H'
     try clear c1
     try clear p2
     try clear c3
     try clear c3b0
     try clear c3b1
     try clear c4
     try clear c4b0
     try clear c4b1
     try clear c5
     try clear c5b0
     try clear c5b1
     try clear c8
     try clear c9
     try clear c10
     try clear c12
     try clear hcz11_0
     try clear hcz13_0
     try clear hfz11_0
     try clear hfz13_0
     obtain⟨x5_1,x17_1,rfl,HA,HK1,HO_5,BK382,BK383,BK384,HB⟩:=hrel
     have hl5_1:=(Kd.R_reads' HO_5.out).1
     rw [hl5_1] at HO_5
     (try simp only [hl5_1])
     (try simp only [hl5_1] at BK382)
     (try simp only [hl5_1] at BK383)
     (try simp only [hl5_1] at BK384)
     cases gk with
     | zero=>exact absurd HA.out (by simp [nat_number_plus.l0])
     | succ k1=>
      have H:=HA.out
      clear HA
      simp only [nat_number_plus.l0] at H
      by_cases c17 : x17_1 < (y385.length : Int)
      ·rw [if_pos c17] at H
       have c17b0 : decide (x17_1 < (y385.length : Int)) = true:=decide_eq_true c17
       (try simp only [hl5_1] at c17b0)
       clear c17
       replace H:=Option.bind_eq_some_iff.mp H
       obtain⟨t388,A180,H⟩:=H
       try dsimp only at H
       have A18:=am A180
       clear A180
       replace H:=Option.bind_eq_some_iff.mp H
       obtain⟨t389,A190,H⟩:=H
       try dsimp only at H
       have A19:=am A190
       clear A190
       by_cases c20 : 0≤x17_1
       ·rw [if_pos c20] at H
        have c20b0 : decide (0≤x17_1) = true:=decide_eq_true c20
        clear c20
        by_cases c21 : x17_1 < (x5_1.length : Int)
        ·rw [if_pos c21] at H
         have c21b0 : decide (x17_1 < (x5_1.length : Int)) = true:=decide_eq_true c21
         (try simp only [hl5_1] at c21b0)
         clear c21
         obtain⟨y390,hy390⟩ : ∃ y_ : List Int,y_ = (x5_1.set (x17_1 : Int).toNat (IntKind.u64.wrap (t388 + t389))):=⟨_,rfl⟩
         replace H : (nat_number_plus.l0 k1 y390 (y385.length : Int) (wrap64 (x17_1 + 1)) l0_0 l1_0) = some r:=by first |(rw [hy390];with_reducible exact H) |(have H2_:=(Option.bind_some _ _).symm.trans H;rw [hy390];with_reducible exact H2_) |(have H2_:=(Option.bind_some _ _).symm.trans H;with_reducible exact H2_) | with_reducible exact H |(rw [hy390];exact H) | exact H
         have Ny390:=am hy390
         clear hy390
         have H':=am H
         clear H
         try go_wp2
         replace HO_5:=am (Kd.R_drew HO_5.out)
         replace BK382:=am (blk_drew BK382.out)
         replace BK383:=am (blk_drew BK383.out)
         replace BK384:=am (blk_drew BK384.out)
         replace HB:=am (below_drew1 HB.out)
         refine start_ (n:=13) (S:=fun w'=>w'.cell? ⟨gb382,0,none⟩ = some (.slice A0_0 l0_0.length c0_0)∧w'.cell? ⟨gb383,0,none⟩ = some (.slice A1_0 l1_0.length c1_0)) (ds:=[12]) #[ff,ff,ff,ff,ff,ff,ff,ff,ff,ff,ff,ff,ff] (by kernel_rfl) rfl rfl ⟨(blk_cell BK382.out 0).trans rfl,(blk_cell BK383.out 0).trans rfl⟩ (fun hHeld=>?_);refine with_tabW nat_number_plus.tab5 nat_number_plus.bits5 (fun HT_ HW_=>?_)
         generalize wr.drew = w23 at HO_5 BK382 BK383 BK384 HB hHeld ⊢
         refine pu (i:=0) (N:=some 20) #[tt,ff,ff,ff,ff,ff,ff,ff,ff,ff,ff,ff,ff] (any_of HT_.out (by kernel_rfl)) ?_
         refine pu (i:=1) (N:=some 21) #[tt,tt,ff,ff,ff,ff,ff,ff,ff,ff,ff,ff,ff] (any_of HT_.out (by kernel_rfl)) ?_
         refine pu (i:=2) (N:=some 22) #[tt,tt,tt,ff,ff,ff,ff,ff,ff,ff,ff,ff,ff] (any_of HT_.out (by kernel_rfl)) ?_
         refine pu (i:=4) (N:=some 24) #[tt,tt,tt,ff,tt,ff,ff,ff,ff,ff,ff,ff,ff] (any_of HT_.out (by kernel_rfl)) ?_
         refine pu (i:=6) (N:=some 26) #[tt,tt,tt,ff,tt,ff,tt,ff,ff,ff,ff,ff,ff] (any_of HT_.out (by kernel_rfl)) ?_
         refine pu (i:=8) (N:=some 28) #[tt,tt,tt,ff,tt,ff,tt,ff,tt,ff,ff,ff,ff] (any_of HT_.out (by kernel_rfl)) ?_
         refine take_ (i:=3) (N:=some 23) (v:=?_) (a':=?_) #[tt,tt,tt,tt,tt,ff,tt,ff,tt,ff,ff,ff,ff] rfl rfl (take_ofW HT_.out HW_.out (by kernel_rfl)) (fun _ _ _ h=>h) (Or.inl ⟨by rfl,?_⟩) hHeld ?_ ?_
         rotate_left
         ·rintro w' ⟨s0,s1⟩
          go_simp
          with_reducible rfl
         rotate_left
         ·simp only [Act.put,sA,sZ,sS,i64_w,i32_w]
          rfl
         refine take_ (i:=7) (N:=some 27) (v:=?_) (a':=?_) #[tt,tt,tt,tt,tt,ff,tt,tt,tt,ff,ff,ff,ff] rfl rfl (take_ofW HT_.out HW_.out (by kernel_rfl)) (fun _ _ _ h=>h) (Or.inl ⟨by rfl,?_⟩) hHeld ?_ ?_
         rotate_left
         ·rintro w' ⟨s0,s1⟩
          go_simp
          with_reducible rfl
         rotate_left
         ·simp only [Act.put,sA,sZ,sS,i64_w,i32_w]
          rfl
         refine one_ (i:=5) (N:=some 25) #[tt,tt,tt,tt,tt,tt,tt,tt,tt,ff,ff,ff,ff] rfl rfl (one_of HT_.out (by kernel_rfl)) (by decide) (fun K hK=>?_)
         refine goes_ Tryz.func79 (by kernel_rfl) rfl #[.slice A0_0 l0_0.length c0_0,.int .i64 x17_1] (by rfl) rfl rfl zl ?_
         with_reducible refine(nat_digits_at.calls _ _ l0_0 x17_1 t388 _ ?side1 ?side2 A18.out).mono ?_
         (case side1=>repeat (first | exact(Kd.C_below HR0_0.out HB.out) |(with_reducible refine Kd.C_alloc ?_ _) |(with_reducible refine Kd.C_drewN ?_ _) |(with_reducible refine Kd.C_drew ?_)))
         (case side2=>exact HC0_0.out)
         rintro e w' ⟨rfl,⟨nd,rfl⟩⟩
         refine⟨_,rfl,?_⟩
         refine hK.out _ _ ⟨(blk_cell BK382.out 0).trans rfl,(blk_cell BK383.out 0).trans rfl⟩ (fun hHeld=>?_)
         clear hK K
         refine norm_ (a':=?_) ?_ ?_
         rotate_left
         ·show Act.put _ (some 25) _ = _
          simp only [Act.put,sA,sZ,sS,i64_w,i32_w]
          rfl
         refine one_ (i:=9) (N:=some 29) #[tt,tt,tt,tt,tt,tt,tt,tt,tt,tt,ff,ff,ff] rfl rfl (one_of HT_.out (by kernel_rfl)) (by decide) (fun K hK=>?_)
         refine goes_ Tryz.func79 (by kernel_rfl) rfl #[.slice A1_0 l1_0.length c1_0,.int .i64 x17_1] (by rfl) rfl rfl zl ?_
         with_reducible refine(nat_digits_at.calls _ _ l1_0 x17_1 t389 _ ?side1 ?side2 A19.out).mono ?_
         (case side1=>repeat (first | exact(Kd.C_below HR1_0.out zb) |(with_reducible refine Kd.C_alloc ?_ _) |(with_reducible refine Kd.C_drewN ?_ _) |(with_reducible refine Kd.C_drew ?_)))
         (case side2=>exact HC1_0.out)
         rintro e w' ⟨rfl,⟨nd,rfl⟩⟩
         refine⟨_,rfl,?_⟩
         have p22 : 0≤(x17_1 : Int):=of_decide_eq_true za
         have q22 : (x17_1 : Int) < ((x5_1.length : Int) : Int):=of_decide_eq_true za
         obtain⟨go22,co22,eo22,gb22,gl22,cl22,HG22⟩:=Kd.R_form HO_5.out (by omega)
         (first | cases eo22 |(injection eo22 with ea_ en_ ec_;(first | subst ea_ |(injection ea_ with ea_;subst ea_));subst ec_;clear en_))
         have GB22:=am gb22
         have GG22:=am HG22
         clear gb22 gl22 HG22
         obtain⟨hx22_0,hf22_0⟩:=Kd.R_celln 0 HO_5.out (x17_1 : Int) p22 q22
         replace p22:=eq_true p22
         replace q22:=eq_true q22
         have HP24:=Kd.R_putn HO_5.out (x17_1 : Int) (IntKind.u64.wrap (t388 + t389))
         rw [← Ny390.out] at HP24
         have HQ24:=am HP24
         clear HP24
         refine hK.out _ _ ⟨(blk_cell BK382.out 0).trans rfl,(blk_cell BK383.out 0).trans rfl⟩ (fun hHeld=>?_)
         clear hK K
         refine norm_ (a':=?_) ?_ ?_
         rotate_left
         ·show Act.put _ (some 29) _ = _
          simp only [Act.put,sA,sZ,sS,i64_w,i32_w]
          rfl
         refine pu (i:=10) (N:=some 30) #[tt,tt,tt,tt,tt,tt,tt,tt,tt,tt,tt,ff,ff] (any_of HT_.out (by kernel_rfl)) ?_
         refine pu (i:=11) (N:=some 31) #[tt,tt,tt,tt,tt,tt,tt,tt,tt,tt,tt,tt,ff] (any_of HT_.out (by kernel_rfl)) ?_
         refine last_ (i:=12) (N:=none) #[tt,tt,tt,tt,tt,tt,tt,tt,tt,tt,tt,tt,tt] rfl rfl (one_of HT_.out (by kernel_rfl)) (by decide) (fun K hK=>?_)
         refine skip_ (w1:=?_) (by rfl) rfl ?_ ?_
         rotate_left
         ·go_simp
          rfl
         refine hK.out _ _ ?_
         clear hK K
         refine done_ (done_of HT_.out (by kernel_rfl)) ?_
         try go_wp2
         (try simp only [← hl5_1])
         go_roundg k1
         case measure=>have:=HK1.out;omega
         case rel=>exact⟨(y390),(wrap64 (x17_1 + 1)),ze,H',⟨by have:=HK1.out;omega⟩,⟨by(try simp only [hl5_1]);refine zR ?_;exact HQ24.out⟩,⟨by(try simp only [hl5_1]);refine zk ?_;refine blk_far ?_ (by have h_:=Kd.R_ne HO_5.out BK382.out (by decide);intro e_;exact h_ (by rw [e_];rfl)) _;refine zk ?_;exact BK382.out⟩,⟨by(try simp only [hl5_1]);refine zk ?_;refine blk_far ?_ (by have h_:=Kd.R_ne HO_5.out BK383.out (by decide);intro e_;exact h_ (by rw [e_];rfl)) _;refine zk ?_;exact BK383.out⟩,⟨by(try simp only [hl5_1]);refine zk ?_;refine blk_far ?_ (by have h_:=Kd.R_ne HO_5.out BK384.out (by decide);intro e_;exact h_ (by rw [e_];rfl)) _;refine zk ?_;exact BK384.out⟩,⟨by repeat (first |(with_reducible first | exact HB.out | apply below_alloc | apply pw_below_drewN | apply below_drew1 | refine below_set ?_ GB22.out | refine below_set ?_ GE382.out | refine below_set ?_ GE383.out | refine below_set ?_ GE384.out) | exact HB.out)⟩⟩
        ·rw [if_neg c21] at H
         exact absurd H (by simp)
       ·rw [if_neg c20] at H
        exact absurd H (by simp)
      ·rw [if_neg c17] at H
       have c17b0 : decide (x17_1 < (y385.length : Int)) = false:=decide_eq_false c17
       (try simp only [hl5_1] at c17b0)
       clear c17
       replace H:=Option.bind_eq_some_iff.mp H
       obtain⟨t391,A250,H⟩:=H
       try dsimp only at H
       have A25:=am A250
       clear A250
       obtain rfl:=Option.some.inj H
       go_wp2_with (first |((with_reducible refine gate_callee (f:=57) rfl ?_);refine goesL_ (some 34) rfl rfl Tryz.func57 (by kernel_rfl) rfl #[.slice Ao16 x5_1.length co16] rfl zl ?_;(with_reducible refine(nat_carried.calls k1 _ _ x5_1 t391 _ ?side1 ?side2 A25.out).mono ?_);(case side1=>exact zC (Kd.R_reads' HO_5.out).2.2);(case side2=>exact(Kd.R_reads' HO_5.out).2.1);rintro e w26 ⟨v392,rfl,ho0,hb⟩;refine⟨_,rfl,?_⟩;have HO393:=am (Kd.R_lower (Kd.R_new' ho0 (Kd.R_lt (zR HO_5.out))) (below_size zb));replace HO_5:=re HO_5 (Kd.R_base ho0) hb;replace BK382:=kb BK382 hb;replace BK383:=kb BK383 hb;replace BK384:=kb BK384 hb;replace HB:=am (below_step zb hb);(try clear hb);(try clear ho0);obtain⟨Ao27,co27,eo27⟩:=Kd.R_slice HO393.out;subst eo27;have hnb28:=NB384_382.out;have hnc28:=NB382_384.out;have hnb29:=NB384_383.out;have hnc29:=NB383_384.out;have hcz30_0 : w26.cell? ⟨gb384,0,none⟩ = some (.slice none 0 0):=(blk_cell BK384.out 0).trans rfl;have hfz30_0:=blk_frozen BK384.out 0))
       refine bodyPost_ret (results_cell_row rfl _ _ gb384 83 #[.slice Ao27 t391.length co27] (0,0) _ rfl (by refine zk ?_;refine blk_put (cs:=#[.slice none 0 0]) ?_ 0 _ rfl;refine zk ?_;exact BK384.out) Tryz.underlying83 rfl (by kernel_rfl)) rfl ?_
       exact⟨_,zf,by refine zR ?_;exact Kd.R_mono (Kd.R_far (p:=⟨gb384,0,none⟩) (Kd.R_types HO393.out BK384.out (by decide)) (fun _ hk=>hk.2) (.slice Ao27 t391.length co27)) (fun _ hk=>trivial),zb⟩
   ·rw [if_neg c5] at H
    exact absurd H (by simp)
  ·rw [if_neg c4] at H
   exact absurd H (by simp)
 ·rw [if_neg c3] at H
  have c3i:=eq_false c3
  have c3b0 : decide ((l0_0.length : Int) < (l1_0.length : Int)) = false:=decide_eq_false c3
  have c3b1 : decide (l0_0.length < l1_0.length) = false:=decide_eq_false (fun h=>c3 (Int.ofNat_lt.mpr h))
  clear c3
  by_cases c31 : 0≤(l0_0.length : Int)
  ·rw [if_pos c31] at H
   have c31b0:=eq_true c31
   have c31b1 : decide (0≤(l0_0.length : Int)) = true:=decide_eq_true c31
   clear c31
   by_cases c32 : ((l0_0.length : Int) : Int).toNat≤35184372088832
   ·rw [if_pos c32] at H
    have c32b0:=eq_true c32
    have c32b1 : decide (((l0_0.length : Int) : Int).toNat≤35184372088832) = true:=decide_eq_true c32
    clear c32
    obtain⟨y394,hy394⟩ : ∃ y_ : List Int,y_ = (List.replicate ((l0_0.length : Int) : Int).toNat 0):=⟨_,rfl⟩
    replace H : (nat_number_plus.l0 k y394 (y394.length : Int) 0 l0_0 l1_0) = some r:=by first |(rw [hy394];with_reducible exact H) |(have H2_:=(Option.bind_some _ _).symm.trans H;rw [hy394];with_reducible exact H2_) |(have H2_:=(Option.bind_some _ _).symm.trans H;with_reducible exact H2_) | with_reducible exact H |(rw [hy394];exact H) | exact H
    have Ny394:=am hy394
    clear hy394
    have H':=am H
    clear H
    go_enter Tryz.func87,Tryz.ntmps87
    go_wp2_with (first |((with_reducible refine gate_dst (N:=2) rfl ?_);refine box_event ?hg (N:=2) ?hd (cs:=#[.slice A0_0 l0_0.length c0_0]) (t:=83) ?hr ?_;(case hd=>rfl);(case hg=>rfl);(case hr=>exact zh);intro gb382 hg w33 hbox hb;have BK382:=am (hbox);have GW382:=gw w hg;have GE382:=gw w hg;replace HB:=am (below_step zb hb);clear hb hbox hg) |((with_reducible refine gate_dst (N:=3) rfl ?_);refine box_event ?hg (N:=3) ?hd (cs:=#[.slice A1_0 l1_0.length c1_0]) (t:=83) ?hr ?_;(case hd=>rfl);(case hg=>rfl);(case hr=>exact zh);intro gb383 hg w34 hbox hb;have BK383:=am (hbox);have GW383:=gw w hg;have GE383:=gw w hg;replace HB:=am (below_step zb hb);have NB382_383:=nl BK382 hg;have NB383_382:=nr BK382 hg;replace BK382:=kb BK382 hb;clear hb hbox hg) |((with_reducible refine gate_dst (N:=4) rfl ?_);refine box_event ?hg (N:=4) ?hd (cs:=#[.slice none 0 0]) (t:=83) ?hr ?_;(case hd=>rfl);(case hg=>rfl);(case hr=>exact zh);intro gb384 hg w35 hbox hb;have BK384:=am (hbox);have GW384:=gw w hg;have GE384:=gw w hg;replace HB:=am (below_step zb hb);have NB382_384:=nl BK382 hg;have NB384_382:=nr BK382 hg;replace BK382:=kb BK382 hb;have NB383_384:=nl BK383 hg;have NB384_383:=nr BK383 hg;replace BK383:=kb BK383 hb;clear hb hbox hg;have hnb36:=NB382_383.out;have hnc36:=NB383_382.out;have hnb37:=NB382_384.out;have hnc37:=NB384_382.out;have hcz38_0 : w35.cell? ⟨gb382,0,none⟩ = some (.slice A0_0 l0_0.length c0_0):=(blk_cell BK382.out 0).trans rfl;have hfz38_0:=blk_frozen BK382.out 0;have hnb39:=NB383_384.out;have hnc39:=NB384_383.out;have hcz40_0 : w35.cell? ⟨gb383,0,none⟩ = some (.slice A1_0 l1_0.length c1_0):=(blk_cell BK383.out 0).trans rfl;have hfz40_0:=blk_frozen BK383.out 0) |((with_reducible refine gate_dst (N:=14) rfl ?_);refine Kd.R_make (Kd.int .u64) _ 59 rfl (N:=14) rfl 77 _ _ rfl (l0_0.length : Int) rfl rfl Tryz.underlying77 (.int .u64 0) 8 info59 rfl (by decide) (by omega) 0 (ok:=fun _=>True) (okp:=fun _=>True) rfl (fun _ hk=>hk) trivial (of_decide_eq_true za) (Nat.le_trans (Nat.mul_le_mul_right _ (of_decide_eq_true za : (l0_0.length : Int).toNat≤35184372088832)) (by omega)) (Below.refl _ _) (Nat.le_refl _) ?_;intro v395 w41 ho42 hb hg_ hnew_;clear hg_ hnew_;(first | rw [← Ny394.out] at ho42 |(simp only [Int.reduceToNat] at ho42;rw [← Ny394.out] at ho42));have HO396:=am (Kd.R_lower ho42 (below_size zb));replace BK382:=kb BK382 hb;replace BK383:=kb BK383 hb;replace BK384:=kb BK384 hb;replace HB:=am (below_step zb hb);clear hb ho42;obtain⟨Ao43,co43,eo43⟩:=Kd.R_slice HO396.out;subst eo43))
    go_loopg [17] k (fun kq v17 w'=>∃ (x5_1 : List Int) (x17_1 : Int),v17 = .int .i64 x17_1∧Aside0 (nat_number_plus.l0 kq x5_1 (y394.length : Int) x17_1 l0_0 l1_0 = some r)∧Aside0 (kq≤k)∧Aside0 (Kd.R (Kd.int .u64) 59 w' w.heap.size (fun _=>True) (.slice Ao43 y394.length co43) x5_1)∧Aside0 (w'.heap[gb382]? = some (.cells #[(.slice A0_0 l0_0.length c0_0)] 83 (0,0)))∧Aside0 (w'.heap[gb383]? = some (.cells #[(.slice A1_0 l1_0.length c1_0)] 83 (0,0)))∧Aside0 (w'.heap[gb384]? = some (.cells #[(.slice none 0 0)] 83 (0,0)))∧Aside0 (Below w.heap.size w w'))
    case atStart=>exact⟨(y394),(0),ze,H',⟨Nat.le_refl _⟩,⟨zR HO396.out⟩,⟨zk BK382.out⟩,⟨zk BK383.out⟩,⟨zk BK384.out⟩,⟨zb⟩⟩
    case round=>
     clear H'
     try clear c1
     try clear c2
     try clear p2
     try clear q2
     try clear hx2
     try clear hf2
     try clear c3
     try clear c3b0
     try clear c3b1
     try clear c4
     try clear c4b0
     try clear c4b1
     try clear c5
     try clear c5b0
     try clear c5b1
     try clear p6
     try clear c7
     try clear c8
     try clear c9
     try clear c10
     try clear c12
     try clear c17
     try clear c17b0
     try clear c20
     try clear c20b0
     try clear c21
     try clear c21b0
     try clear p22
     try clear q22
     try clear hx22
     try clear hf22
     try clear c28
     try clear c29
     try clear c31
     try clear c31b0
     try clear c31b1
     try clear c32
     try clear c32b0
     try clear c32b1
     try clear c36
     try clear c37
     try clear c39
     try clear hcz11_0
     try clear hcz13_0
     try clear hcz30_0
     try clear hcz38_0
     try clear hcz40_0
     try clear hfz11_0
     try clear hfz13_0
     try clear hfz30_0
     try clear hfz38_0
     try clear hfz40_0
     try clear hx22_0
     try clear p2
     try clear p22
     try clear q22
     obtain⟨x5_1,x17_1,rfl,HA,HK1,HO_5,BK382,BK383,BK384,HB⟩:=hrel
     have hl5_1:=(Kd.R_reads' HO_5.out).1
     rw [hl5_1] at HO_5
     (try simp only [hl5_1])
     (try simp only [hl5_1] at BK382)
     (try simp only [hl5_1] at BK383)
     (try simp only [hl5_1] at BK384)
     cases gk with
     | zero=>exact absurd HA.out (by simp [nat_number_plus.l0])
     | succ k1=>
      have H:=HA.out
      clear HA
      simp only [nat_number_plus.l0] at H
      by_cases c44 : x17_1 < (y394.length : Int)
      ·rw [if_pos c44] at H
       have c44b0 : decide (x17_1 < (y394.length : Int)) = true:=decide_eq_true c44
       (try simp only [hl5_1] at c44b0)
       clear c44
       replace H:=Option.bind_eq_some_iff.mp H
       obtain⟨t388,A450,H⟩:=H
       try dsimp only at H
       have A45:=am A450
       clear A450
       replace H:=Option.bind_eq_some_iff.mp H
       obtain⟨t389,A460,H⟩:=H
       try dsimp only at H
       have A46:=am A460
       clear A460
       by_cases c47 : 0≤x17_1
       ·rw [if_pos c47] at H
        have c47b0 : decide (0≤x17_1) = true:=decide_eq_true c47
        clear c47
        by_cases c48 : x17_1 < (x5_1.length : Int)
        ·rw [if_pos c48] at H
         have c48b0 : decide (x17_1 < (x5_1.length : Int)) = true:=decide_eq_true c48
         (try simp only [hl5_1] at c48b0)
         clear c48
         obtain⟨y390,hy390⟩ : ∃ y_ : List Int,y_ = (x5_1.set (x17_1 : Int).toNat (IntKind.u64.wrap (t388 + t389))):=⟨_,rfl⟩
         replace H : (nat_number_plus.l0 k1 y390 (y394.length : Int) (wrap64 (x17_1 + 1)) l0_0 l1_0) = some r:=by first |(rw [hy390];with_reducible exact H) |(have H2_:=(Option.bind_some _ _).symm.trans H;rw [hy390];with_reducible exact H2_) |(have H2_:=(Option.bind_some _ _).symm.trans H;with_reducible exact H2_) | with_reducible exact H |(rw [hy390];exact H) | exact H
         have Ny390:=am hy390
         clear hy390
         have H':=am H
         clear H
         try go_wp2
         replace HO_5:=am (Kd.R_drew HO_5.out)
         replace BK382:=am (blk_drew BK382.out)
         replace BK383:=am (blk_drew BK383.out)
         replace BK384:=am (blk_drew BK384.out)
         replace HB:=am (below_drew1 HB.out)
         refine start_ (n:=13) (S:=fun w'=>w'.cell? ⟨gb382,0,none⟩ = some (.slice A0_0 l0_0.length c0_0)∧w'.cell? ⟨gb383,0,none⟩ = some (.slice A1_0 l1_0.length c1_0)) (ds:=[12]) #[ff,ff,ff,ff,ff,ff,ff,ff,ff,ff,ff,ff,ff] (by kernel_rfl) rfl rfl ⟨(blk_cell BK382.out 0).trans rfl,(blk_cell BK383.out 0).trans rfl⟩ (fun hHeld=>?_);refine with_tabW nat_number_plus.tab5 nat_number_plus.bits5 (fun HT_ HW_=>?_)
         generalize wr.drew = w50 at HO_5 BK382 BK383 BK384 HB hHeld ⊢
         refine pu (i:=0) (N:=some 20) #[tt,ff,ff,ff,ff,ff,ff,ff,ff,ff,ff,ff,ff] (any_of HT_.out (by kernel_rfl)) ?_
         refine pu (i:=1) (N:=some 21) #[tt,tt,ff,ff,ff,ff,ff,ff,ff,ff,ff,ff,ff] (any_of HT_.out (by kernel_rfl)) ?_
         refine pu (i:=2) (N:=some 22) #[tt,tt,tt,ff,ff,ff,ff,ff,ff,ff,ff,ff,ff] (any_of HT_.out (by kernel_rfl)) ?_
         refine pu (i:=4) (N:=some 24) #[tt,tt,tt,ff,tt,ff,ff,ff,ff,ff,ff,ff,ff] (any_of HT_.out (by kernel_rfl)) ?_
         refine pu (i:=6) (N:=some 26) #[tt,tt,tt,ff,tt,ff,tt,ff,ff,ff,ff,ff,ff] (any_of HT_.out (by kernel_rfl)) ?_
         refine pu (i:=8) (N:=some 28) #[tt,tt,tt,ff,tt,ff,tt,ff,tt,ff,ff,ff,ff] (any_of HT_.out (by kernel_rfl)) ?_
         refine take_ (i:=3) (N:=some 23) (v:=?_) (a':=?_) #[tt,tt,tt,tt,tt,ff,tt,ff,tt,ff,ff,ff,ff] rfl rfl (take_ofW HT_.out HW_.out (by kernel_rfl)) (fun _ _ _ h=>h) (Or.inl ⟨by rfl,?_⟩) hHeld ?_ ?_
         rotate_left
         ·rintro w' ⟨s0,s1⟩
          go_simp
          with_reducible rfl
         rotate_left
         ·simp only [Act.put,sA,sZ,sS,i64_w,i32_w]
          rfl
         refine take_ (i:=7) (N:=some 27) (v:=?_) (a':=?_) #[tt,tt,tt,tt,tt,ff,tt,tt,tt,ff,ff,ff,ff] rfl rfl (take_ofW HT_.out HW_.out (by kernel_rfl)) (fun _ _ _ h=>h) (Or.inl ⟨by rfl,?_⟩) hHeld ?_ ?_
         rotate_left
         ·rintro w' ⟨s0,s1⟩
          go_simp
          with_reducible rfl
         rotate_left
         ·simp only [Act.put,sA,sZ,sS,i64_w,i32_w]
          rfl
         refine one_ (i:=5) (N:=some 25) #[tt,tt,tt,tt,tt,tt,tt,tt,tt,ff,ff,ff,ff] rfl rfl (one_of HT_.out (by kernel_rfl)) (by decide) (fun K hK=>?_)
         refine goes_ Tryz.func79 (by kernel_rfl) rfl #[.slice A0_0 l0_0.length c0_0,.int .i64 x17_1] (by rfl) rfl rfl zl ?_
         with_reducible refine(nat_digits_at.calls _ _ l0_0 x17_1 t388 _ ?side1 ?side2 A45.out).mono ?_
         (case side1=>repeat (first | exact(Kd.C_below HR0_0.out HB.out) |(with_reducible refine Kd.C_alloc ?_ _) |(with_reducible refine Kd.C_drewN ?_ _) |(with_reducible refine Kd.C_drew ?_)))
         (case side2=>exact HC0_0.out)
         rintro e w' ⟨rfl,⟨nd,rfl⟩⟩
         refine⟨_,rfl,?_⟩
         refine hK.out _ _ ⟨(blk_cell BK382.out 0).trans rfl,(blk_cell BK383.out 0).trans rfl⟩ (fun hHeld=>?_)
         clear hK K
         refine norm_ (a':=?_) ?_ ?_
         rotate_left
         ·show Act.put _ (some 25) _ = _
          simp only [Act.put,sA,sZ,sS,i64_w,i32_w]
          rfl
         refine one_ (i:=9) (N:=some 29) #[tt,tt,tt,tt,tt,tt,tt,tt,tt,tt,ff,ff,ff] rfl rfl (one_of HT_.out (by kernel_rfl)) (by decide) (fun K hK=>?_)
         refine goes_ Tryz.func79 (by kernel_rfl) rfl #[.slice A1_0 l1_0.length c1_0,.int .i64 x17_1] (by rfl) rfl rfl zl ?_
         with_reducible refine(nat_digits_at.calls _ _ l1_0 x17_1 t389 _ ?side1 ?side2 A46.out).mono ?_
         (case side1=>repeat (first | exact(Kd.C_below HR1_0.out zb) |(with_reducible refine Kd.C_alloc ?_ _) |(with_reducible refine Kd.C_drewN ?_ _) |(with_reducible refine Kd.C_drew ?_)))
         (case side2=>exact HC1_0.out)
         rintro e w' ⟨rfl,⟨nd,rfl⟩⟩
         refine⟨_,rfl,?_⟩
         have p49 : 0≤(x17_1 : Int):=of_decide_eq_true za
         have q49 : (x17_1 : Int) < ((x5_1.length : Int) : Int):=of_decide_eq_true za
         obtain⟨go49,co49,eo49,gb49,gl49,cl49,HG49⟩:=Kd.R_form HO_5.out (by omega)
         (first | cases eo49 |(injection eo49 with ea_ en_ ec_;(first | subst ea_ |(injection ea_ with ea_;subst ea_));subst ec_;clear en_))
         have GB49:=am gb49
         have GG49:=am HG49
         clear gb49 gl49 HG49
         obtain⟨hx49_0,hf49_0⟩:=Kd.R_celln 0 HO_5.out (x17_1 : Int) p49 q49
         replace p49:=eq_true p49
         replace q49:=eq_true q49
         have HP51:=Kd.R_putn HO_5.out (x17_1 : Int) (IntKind.u64.wrap (t388 + t389))
         rw [← Ny390.out] at HP51
         have HQ51:=am HP51
         clear HP51
         refine hK.out _ _ ⟨(blk_cell BK382.out 0).trans rfl,(blk_cell BK383.out 0).trans rfl⟩ (fun hHeld=>?_)
         clear hK K
         refine norm_ (a':=?_) ?_ ?_
         rotate_left
         ·show Act.put _ (some 29) _ = _
          simp only [Act.put,sA,sZ,sS,i64_w,i32_w]
          rfl
         refine pu (i:=10) (N:=some 30) #[tt,tt,tt,tt,tt,tt,tt,tt,tt,tt,tt,ff,ff] (any_of HT_.out (by kernel_rfl)) ?_
         refine pu (i:=11) (N:=some 31) #[tt,tt,tt,tt,tt,tt,tt,tt,tt,tt,tt,tt,ff] (any_of HT_.out (by kernel_rfl)) ?_
         refine last_ (i:=12) (N:=none) #[tt,tt,tt,tt,tt,tt,tt,tt,tt,tt,tt,tt,tt] rfl rfl (one_of HT_.out (by kernel_rfl)) (by decide) (fun K hK=>?_)
         refine skip_ (w1:=?_) (by rfl) rfl ?_ ?_
         rotate_left
         ·go_simp
          rfl
         refine hK.out _ _ ?_
         clear hK K
         refine done_ (done_of HT_.out (by kernel_rfl)) ?_
         try go_wp2
         (try simp only [← hl5_1])
         go_roundg k1
         case measure=>have:=HK1.out;omega
         case rel=>exact⟨(y390),(wrap64 (x17_1 + 1)),ze,H',⟨by have:=HK1.out;omega⟩,⟨by(try simp only [hl5_1]);refine zR ?_;exact HQ51.out⟩,⟨by(try simp only [hl5_1]);refine zk ?_;refine blk_far ?_ (by have h_:=Kd.R_ne HO_5.out BK382.out (by decide);intro e_;exact h_ (by rw [e_];rfl)) _;refine zk ?_;exact BK382.out⟩,⟨by(try simp only [hl5_1]);refine zk ?_;refine blk_far ?_ (by have h_:=Kd.R_ne HO_5.out BK383.out (by decide);intro e_;exact h_ (by rw [e_];rfl)) _;refine zk ?_;exact BK383.out⟩,⟨by(try simp only [hl5_1]);refine zk ?_;refine blk_far ?_ (by have h_:=Kd.R_ne HO_5.out BK384.out (by decide);intro e_;exact h_ (by rw [e_];rfl)) _;refine zk ?_;exact BK384.out⟩,⟨by repeat (first |(with_reducible first | exact HB.out | apply below_alloc | apply pw_below_drewN | apply below_drew1 | refine below_set ?_ GB49.out | refine below_set ?_ GE382.out | refine below_set ?_ GE383.out | refine below_set ?_ GE384.out) | exact HB.out)⟩⟩
        ·rw [if_neg c48] at H
         exact absurd H (by simp)
       ·rw [if_neg c47] at H
        exact absurd H (by simp)
      ·rw [if_neg c44] at H
       have c44b0 : decide (x17_1 < (y394.length : Int)) = false:=decide_eq_false c44
       (try simp only [hl5_1] at c44b0)
       clear c44
       replace H:=Option.bind_eq_some_iff.mp H
       obtain⟨t391,A520,H⟩:=H
       try dsimp only at H
       have A52:=am A520
       clear A520
       obtain rfl:=Option.some.inj H
       go_wp2_with (first |((with_reducible refine gate_callee (f:=57) rfl ?_);refine goesL_ (some 34) rfl rfl Tryz.func57 (by kernel_rfl) rfl #[.slice Ao43 x5_1.length co43] rfl zl ?_;(with_reducible refine(nat_carried.calls k1 _ _ x5_1 t391 _ ?side1 ?side2 A52.out).mono ?_);(case side1=>exact zC (Kd.R_reads' HO_5.out).2.2);(case side2=>exact(Kd.R_reads' HO_5.out).2.1);rintro e w53 ⟨v392,rfl,ho0,hb⟩;refine⟨_,rfl,?_⟩;have HO393:=am (Kd.R_lower (Kd.R_new' ho0 (Kd.R_lt (zR HO_5.out))) (below_size zb));replace HO_5:=re HO_5 (Kd.R_base ho0) hb;replace BK382:=kb BK382 hb;replace BK383:=kb BK383 hb;replace BK384:=kb BK384 hb;replace HB:=am (below_step zb hb);(try clear hb);(try clear ho0);obtain⟨Ao54,co54,eo54⟩:=Kd.R_slice HO393.out;subst eo54;have hnb55:=NB384_382.out;have hnc55:=NB382_384.out;have hnb56:=NB384_383.out;have hnc56:=NB383_384.out;have hcz57_0 : w53.cell? ⟨gb384,0,none⟩ = some (.slice none 0 0):=(blk_cell BK384.out 0).trans rfl;have hfz57_0:=blk_frozen BK384.out 0))
       refine bodyPost_ret (results_cell_row rfl _ _ gb384 83 #[.slice Ao54 t391.length co54] (0,0) _ rfl (by refine zk ?_;refine blk_put (cs:=#[.slice none 0 0]) ?_ 0 _ rfl;refine zk ?_;exact BK384.out) Tryz.underlying83 rfl (by kernel_rfl)) rfl ?_
       exact⟨_,zf,by refine zR ?_;exact Kd.R_mono (Kd.R_far (p:=⟨gb384,0,none⟩) (Kd.R_types HO393.out BK384.out (by decide)) (fun _ hk=>hk.2) (.slice Ao54 t391.length co54)) (fun _ hk=>trivial),zb⟩
   ·rw [if_neg c32] at H
    exact absurd H (by simp)
  ·rw [if_neg c31] at H
   exact absurd H (by simp)

end Go.Proofs.YtcbohpmdeboeoaaGreatDoorRR.X

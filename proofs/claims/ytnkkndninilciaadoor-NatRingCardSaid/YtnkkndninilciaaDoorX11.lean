-- Printed by xprint.py, this session's own program (wip/tool), out of the translation. Lean checks it.
import Derived.Test.YtnkkndninilciaaDoorZ
import Derived.Test.YtnkkndninilciaaDoorX0
import Derived.Test.YtnkkndninilciaaDoorX1
import Derived.Test.YtnkkndninilciaaDoorX3
import Derived.Test.YtnkkndninilciaaDoorX7
import Derived.Test.YtnkkndninilciaaDoorX8
import Derived.Test.YtnkkndninilciaaDoorX9
import Derived.Test.YtnkkndninilciaaDoorX10
namespace Go.Proofs.YtnkkndninilciaaDoor.X
open Go.Proofs.YtnkkndninilciaaDoor.Z
open Go.RowKit Go.Proofs.YtnkkndninilciaaDoorW.PrintWords Go.Proofs.YtnkkndninilciaaDoorW.PrintLast Go.Proofs.YtnkkndninilciaaDoorW.PrintMore
open List renaming setIfInBounds_toArray → sA, set_cons_zero → sZ, set_cons_succ → sS
open Aside0 renaming mk → am
open Bool renaming true → tt, false → ff
set_option maxHeartbeats 8000000
set_option maxRecDepth 100000
attribute [local go_sem] max2_int min2_int max_two min_two max_three min_three max_four min_four   -- for this text's walks alone
set_option linter.unusedVariables false
set_option linter.unusedSimpArgs false

/-! ### whetstonelaw01_NatSums: function 3 -/
/-! ### nat_Sub: function 15 -/
def nat_Sub.f (k : Nat) (l0 : List Int) (l1 : List Int) : Option (List Int×Bool):=(nat_of.f k l0).bind fun t427=>((nat_of.f k l1).bind fun t430=>((nat_number_compare.f k t427 t430).bind fun t435=>(if t435 < 0 then(some (([] : List Int),false)) else((nat_number_less.f k t427 t430).bind fun t436=>((nat_number_row.f k t436).bind fun t439=>(some (t439,true)))))))
theorem nat_Sub.calls (k : Nat) (A0 : Option Addr) (c0 : Nat) (l0 : List Int) (A1 : Option Addr) (c1 : Nat) (l1 : List Int) (r1 : List Int) (r2 : Bool) (w : World) (hr0 : Kd.C (Kd.int .u32) w A0 l0.length l0) (hc0 : l0.length≤c0) (hr1 : Kd.C (Kd.int .u32) w A1 l1.length l1) (hc1 : l1.length≤c1) (h : nat_Sub.f k l0 l1 = some (r1,r2)) :
  Calls Tryd.prog 15 #[.slice A0 l0.length c0,.slice A1 l1.length c1] w fun e w'=>∃ v0_ : Value,e = .returned (.tuple #[v0_,.bool r2])∧Kd.V (Kd.int .u32) 32 w' w.heap.size (fun k_=>(w.heap.size≤k_)) v0_ r1∧Below w.heap.size w w':=by
 have hu47:=Tryd.underlying47
 have HR0:=am hr0
 have HC0:=am hc0
 clear hr0 hc0
 have HR1:=am hr1
 have HC1:=am hc1
 clear hr1 hc1
 have HB:=am (Below.refl w.heap.size w)
 have H : ((nat_of.f k l0).bind fun t427=>((nat_of.f k l1).bind fun t430=>((nat_number_compare.f k t427 t430).bind fun t435=>(if t435 < 0 then(some (([] : List Int),false)) else((nat_number_less.f k t427 t430).bind fun t436=>((nat_number_row.f k t436).bind fun t439=>(some (t439,true)))))))) = some (r1,r2):=h
 clear h
 replace H:=Option.bind_eq_some_iff.mp H
 obtain⟨t427,A30,H⟩:=H
 try dsimp only at H
 have A3:=am A30
 clear A30
 replace H:=Option.bind_eq_some_iff.mp H
 obtain⟨t430,A40,H⟩:=H
 try dsimp only at H
 have A4:=am A40
 clear A40
 replace H:=Option.bind_eq_some_iff.mp H
 obtain⟨t435,A50,H⟩:=H
 try dsimp only at H
 have A5:=am A50
 clear A50
 by_cases c6 : t435 < 0
 ·rw [if_pos c6] at H
  have c6b0 : decide (t435 < 0) = true:=decide_eq_true c6
  clear c6
  simp only [Option.some.injEq,Prod.mk.injEq] at H
  obtain⟨rfl,rfl⟩:=H
  go_enter Tryd.func15,Tryd.ntmps15
  go_wp2_with (first |((with_reducible refine gate_callee (f:=31) rfl ?_);refine goesL_ (some 9) rfl rfl Tryd.func31 (by kernel_rfl) rfl #[.slice A0 l0.length c0] rfl zl ?_;(with_reducible refine(nat_of.calls k _ _ l0 t427 _ ?side1 ?side2 A3.out).mono ?_);(case side1=>exact zC HR0.out);(case side2=>exact HC0.out);rintro e w7 ⟨v428,rfl,ho0,hb⟩;refine⟨_,rfl,?_⟩;have HO429:=am (Kd.R_lower (Kd.R_newM (M:=fun k_=>(w.heap.size≤k_)) ho0 (below_size zb) (fun k_ h_=>h_)) (below_size zb));replace HB:=am (below_step zb hb);(try clear hb);(try clear ho0)) |((with_reducible refine gate_callee (f:=31) rfl ?_);refine goesL_ (some 11) rfl rfl Tryd.func31 (by kernel_rfl) rfl #[.slice A1 l1.length c1] rfl zl ?_;(with_reducible refine(nat_of.calls k _ _ l1 t430 _ ?side1 ?side2 A4.out).mono ?_);(case side1=>repeat (first | exact(Kd.C_below HR1.out HB.out) |(with_reducible refine Kd.C_alloc ?_ _) |(with_reducible refine Kd.C_drewN ?_ _) |(with_reducible refine Kd.C_drew ?_)));(case side2=>exact HC1.out);rintro e w8 ⟨v431,rfl,ho0,hb⟩;refine⟨_,rfl,?_⟩;have HO432:=am (Kd.R_lower (Kd.R_new' (Kd.R_newM (M:=fun k_=>(w.heap.size≤k_)) ho0 (below_size zb) (fun k_ h_=>h_)) (Kd.R_lt (zR HO429.out))) (below_size zb));replace HO429:=re HO429 (Kd.R_base ho0) hb;replace HB:=am (below_step zb hb);(try clear hb);(try clear ho0)) |((with_reducible refine gate_dst (N:=6) rfl ?_);refine box_event ?hg (N:=6) ?hd (cs:=#[.slice none 0 0]) (t:=47) ?hr ?_;(case hd=>rfl);(case hg=>rfl);(case hr=>exact zh);intro gb433 hg w9 hbox hb;replace HO429:=rb HO429 hb;replace HO432:=rb HO432 hb;have BK433:=am (hbox);have GW433:=gw w hg;have GE433:=gw w hg;replace HB:=am (below_step zb hb);clear hb hbox hg) |((with_reducible refine gate_dst (N:=7) rfl ?_);refine box_event ?hg (N:=7) ?hd (cs:=#[.slice none 0 0]) (t:=47) ?hr ?_;(case hd=>rfl);(case hg=>rfl);(case hr=>exact zh);intro gb434 hg w10 hbox hb;replace HO429:=rb HO429 hb;replace HO432:=rb HO432 hb;have BK434:=am (hbox);have GW434:=gw w hg;have GE434:=gw w hg;replace HB:=am (below_step zb hb);have NB433_434:=nl BK433 hg;have NB434_433:=nr BK433 hg;replace BK433:=kb BK433 hb;clear hb hbox hg;obtain⟨Ao11,co11,eo11⟩:=Kd.R_slice HO429.out;subst eo11;have hnb12:=NB433_434.out;have hnc12:=NB434_433.out;have hcz13_0 : w10.cell? ⟨gb433,0,none⟩ = some (.slice none 0 0):=(blk_cell BK433.out 0).trans rfl;have hfz13_0:=blk_frozen BK433.out 0;obtain⟨Ao14,co14,eo14⟩:=Kd.R_slice HO432.out;subst eo14;have hcz15_0 : w10.cell? ⟨gb434,0,none⟩ = some (.slice none 0 0):=(blk_cell BK434.out 0).trans rfl;have hfz15_0:=blk_frozen BK434.out 0) |((with_reducible refine gate_callee (f:=32) rfl ?_);refine goesL_ (some 14) rfl rfl Tryd.func32 (by kernel_rfl) rfl #[.agg #[.slice Ao11 t427.length co11],.agg #[.slice Ao14 t430.length co14]] rfl zl ?_;(with_reducible refine(nat_number_compare.calls k _ _ t427 _ _ t430 t435 _ ?side1 ?side2 ?side3 ?side4 A5.out).mono ?_);(case side1=>refine(Kd.R_reads' (e:=55) (base:=w.heap.size) (ok:=fun k_=>(((w.heap.size≤k_)∧True)∧some k_≠(.slice Ao14 t430.length co14 : Value).ownBlock)) (n:=t427.length) (c:=co11) ?_).2.2;exact(by refine zR ?_;exact(Kd.R_mono (Kd.R_mono (Kd.R_far (p:=⟨gb434,0,none⟩) (Kd.R_far (p:=⟨gb433,0,none⟩) (Kd.R_types (Kd.R_types HO429.out BK433.out (by decide)) BK434.out (by decide)) (fun _ hk=>hk.1.2) (.slice Ao11 t427.length co11)) (fun _ hk=>hk.2) (.slice Ao14 t430.length co14)) (fun _ h_=>h_.1)) (fun _ h_=>h_.1))));(case side2=>exact(Kd.R_reads' HO429.out).2.1);(case side3=>refine(Kd.R_reads' (e:=55) (base:=w.heap.size) (ok:=fun k_=>(((w.heap.size≤k_)∧True)∧some k_≠(.slice Ao11 t427.length co11 : Value).ownBlock)) (n:=t430.length) (c:=co14) ?_).2.2;exact(by refine zR ?_;exact(Kd.R_mono (Kd.R_mono (Kd.R_far (p:=⟨gb434,0,none⟩) (Kd.R_far (p:=⟨gb433,0,none⟩) (Kd.R_types (Kd.R_types HO432.out BK433.out (by decide)) BK434.out (by decide)) (fun _ hk=>hk.1.2) (.slice Ao11 t427.length co11)) (fun _ hk=>hk.2) (.slice Ao14 t430.length co14)) (fun _ h_=>h_.1)) (fun _ h_=>h_.1))));(case side4=>exact(Kd.R_reads' HO432.out).2.1);rintro e w16 ⟨rfl,hb⟩;refine⟨_,rfl,?_⟩;replace HO429:=am (Kd.R_below (by refine zR ?_;exact(Kd.R_mono (Kd.R_mono (Kd.R_far (p:=⟨gb434,0,none⟩) (Kd.R_far (p:=⟨gb433,0,none⟩) (Kd.R_types (Kd.R_types HO429.out BK433.out (by decide)) BK434.out (by decide)) (fun _ hk=>hk.1.2) (.slice Ao11 t427.length co11)) (fun _ hk=>hk.2) (.slice Ao14 t430.length co14)) (fun _ h_=>h_.1)) (fun _ h_=>h_.1))) hb);replace HO432:=am (Kd.R_below (by refine zR ?_;exact(Kd.R_mono (Kd.R_mono (Kd.R_far (p:=⟨gb434,0,none⟩) (Kd.R_far (p:=⟨gb433,0,none⟩) (Kd.R_types (Kd.R_types HO432.out BK433.out (by decide)) BK434.out (by decide)) (fun _ hk=>hk.1.2) (.slice Ao11 t427.length co11)) (fun _ hk=>hk.2) (.slice Ao14 t430.length co14)) (fun _ h_=>h_.1)) (fun _ h_=>h_.1))) hb);replace BK433:=am (blk_below (g:=gb433) (o:=.cells #[.slice Ao11 t427.length co11] 47 (0,0)) (by refine zk ?_;refine blk_far ?_ NB433_434.out _;refine zk ?_;refine blk_put (cs:=#[.slice none 0 0]) ?_ 0 _ rfl;refine zk ?_;exact BK433.out) hb);replace BK434:=am (blk_below (g:=gb434) (o:=.cells #[.slice Ao14 t430.length co14] 47 (0,0)) (by refine zk ?_;refine blk_put (cs:=#[.slice none 0 0]) ?_ 0 _ rfl;refine zk ?_;refine blk_far ?_ NB434_433.out _;refine zk ?_;exact BK434.out) hb);replace HB:=am (below_step zb hb);(try clear hb);skip))
  go_ret2
  exact⟨_,zf,Kd.V_nil _ _ _ _ _,zb⟩
 ·rw [if_neg c6] at H
  have c6b0 : decide (t435 < 0) = false:=decide_eq_false c6
  clear c6
  replace H:=Option.bind_eq_some_iff.mp H
  obtain⟨t436,A170,H⟩:=H
  try dsimp only at H
  have A17:=am A170
  clear A170
  replace H:=Option.bind_eq_some_iff.mp H
  obtain⟨t439,A180,H⟩:=H
  try dsimp only at H
  have A18:=am A180
  clear A180
  simp only [Option.some.injEq,Prod.mk.injEq] at H
  obtain⟨rfl,rfl⟩:=H
  go_enter Tryd.func15,Tryd.ntmps15
  go_wp2_with (first |((with_reducible refine gate_callee (f:=31) rfl ?_);refine goesL_ (some 9) rfl rfl Tryd.func31 (by kernel_rfl) rfl #[.slice A0 l0.length c0] rfl zl ?_;(with_reducible refine(nat_of.calls k _ _ l0 t427 _ ?side1 ?side2 A3.out).mono ?_);(case side1=>exact zC HR0.out);(case side2=>exact HC0.out);rintro e w19 ⟨v428,rfl,ho0,hb⟩;refine⟨_,rfl,?_⟩;have HO429:=am (Kd.R_lower (Kd.R_newM (M:=fun k_=>(w.heap.size≤k_)) ho0 (below_size zb) (fun k_ h_=>h_)) (below_size zb));replace HB:=am (below_step zb hb);(try clear hb);(try clear ho0)) |((with_reducible refine gate_callee (f:=31) rfl ?_);refine goesL_ (some 11) rfl rfl Tryd.func31 (by kernel_rfl) rfl #[.slice A1 l1.length c1] rfl zl ?_;(with_reducible refine(nat_of.calls k _ _ l1 t430 _ ?side1 ?side2 A4.out).mono ?_);(case side1=>repeat (first | exact(Kd.C_below HR1.out HB.out) |(with_reducible refine Kd.C_alloc ?_ _) |(with_reducible refine Kd.C_drewN ?_ _) |(with_reducible refine Kd.C_drew ?_)));(case side2=>exact HC1.out);rintro e w20 ⟨v431,rfl,ho0,hb⟩;refine⟨_,rfl,?_⟩;have HO432:=am (Kd.R_lower (Kd.R_new' (Kd.R_newM (M:=fun k_=>(w.heap.size≤k_)) ho0 (below_size zb) (fun k_ h_=>h_)) (Kd.R_lt (zR HO429.out))) (below_size zb));replace HO429:=re HO429 (Kd.R_base ho0) hb;replace HB:=am (below_step zb hb);(try clear hb);(try clear ho0)) |((with_reducible refine gate_dst (N:=6) rfl ?_);refine box_event ?hg (N:=6) ?hd (cs:=#[.slice none 0 0]) (t:=47) ?hr ?_;(case hd=>rfl);(case hg=>rfl);(case hr=>exact zh);intro gb433 hg w21 hbox hb;replace HO429:=rb HO429 hb;replace HO432:=rb HO432 hb;have BK433:=am (hbox);have GW433:=gw w hg;have GE433:=gw w hg;replace HB:=am (below_step zb hb);clear hb hbox hg) |((with_reducible refine gate_dst (N:=7) rfl ?_);refine box_event ?hg (N:=7) ?hd (cs:=#[.slice none 0 0]) (t:=47) ?hr ?_;(case hd=>rfl);(case hg=>rfl);(case hr=>exact zh);intro gb434 hg w22 hbox hb;replace HO429:=rb HO429 hb;replace HO432:=rb HO432 hb;have BK434:=am (hbox);have GW434:=gw w hg;have GE434:=gw w hg;replace HB:=am (below_step zb hb);have NB433_434:=nl BK433 hg;have NB434_433:=nr BK433 hg;replace BK433:=kb BK433 hb;clear hb hbox hg;obtain⟨Ao23,co23,eo23⟩:=Kd.R_slice HO429.out;subst eo23;have hnb24:=NB433_434.out;have hnc24:=NB434_433.out;have hcz25_0 : w22.cell? ⟨gb433,0,none⟩ = some (.slice none 0 0):=(blk_cell BK433.out 0).trans rfl;have hfz25_0:=blk_frozen BK433.out 0;obtain⟨Ao26,co26,eo26⟩:=Kd.R_slice HO432.out;subst eo26;have hcz27_0 : w22.cell? ⟨gb434,0,none⟩ = some (.slice none 0 0):=(blk_cell BK434.out 0).trans rfl;have hfz27_0:=blk_frozen BK434.out 0) |((with_reducible refine gate_callee (f:=32) rfl ?_);refine goesL_ (some 14) rfl rfl Tryd.func32 (by kernel_rfl) rfl #[.agg #[.slice Ao23 t427.length co23],.agg #[.slice Ao26 t430.length co26]] rfl zl ?_;(with_reducible refine(nat_number_compare.calls k _ _ t427 _ _ t430 t435 _ ?side1 ?side2 ?side3 ?side4 A5.out).mono ?_);(case side1=>refine(Kd.R_reads' (e:=55) (base:=w.heap.size) (ok:=fun k_=>(((w.heap.size≤k_)∧True)∧some k_≠(.slice Ao26 t430.length co26 : Value).ownBlock)) (n:=t427.length) (c:=co23) ?_).2.2;exact(by refine zR ?_;exact(Kd.R_mono (Kd.R_mono (Kd.R_far (p:=⟨gb434,0,none⟩) (Kd.R_far (p:=⟨gb433,0,none⟩) (Kd.R_types (Kd.R_types HO429.out BK433.out (by decide)) BK434.out (by decide)) (fun _ hk=>hk.1.2) (.slice Ao23 t427.length co23)) (fun _ hk=>hk.2) (.slice Ao26 t430.length co26)) (fun _ h_=>h_.1)) (fun _ h_=>h_.1))));(case side2=>exact(Kd.R_reads' HO429.out).2.1);(case side3=>refine(Kd.R_reads' (e:=55) (base:=w.heap.size) (ok:=fun k_=>(((w.heap.size≤k_)∧True)∧some k_≠(.slice Ao23 t427.length co23 : Value).ownBlock)) (n:=t430.length) (c:=co26) ?_).2.2;exact(by refine zR ?_;exact(Kd.R_mono (Kd.R_mono (Kd.R_far (p:=⟨gb434,0,none⟩) (Kd.R_far (p:=⟨gb433,0,none⟩) (Kd.R_types (Kd.R_types HO432.out BK433.out (by decide)) BK434.out (by decide)) (fun _ hk=>hk.1.2) (.slice Ao23 t427.length co23)) (fun _ hk=>hk.2) (.slice Ao26 t430.length co26)) (fun _ h_=>h_.1)) (fun _ h_=>h_.1))));(case side4=>exact(Kd.R_reads' HO432.out).2.1);rintro e w28 ⟨rfl,hb⟩;refine⟨_,rfl,?_⟩;replace HO429:=am (Kd.R_below (by refine zR ?_;exact(Kd.R_mono (Kd.R_mono (Kd.R_far (p:=⟨gb434,0,none⟩) (Kd.R_far (p:=⟨gb433,0,none⟩) (Kd.R_types (Kd.R_types HO429.out BK433.out (by decide)) BK434.out (by decide)) (fun _ hk=>hk.1.2) (.slice Ao23 t427.length co23)) (fun _ hk=>hk.2) (.slice Ao26 t430.length co26)) (fun _ h_=>h_.1)) (fun _ h_=>h_.1))) hb);replace HO432:=am (Kd.R_below (by refine zR ?_;exact(Kd.R_mono (Kd.R_mono (Kd.R_far (p:=⟨gb434,0,none⟩) (Kd.R_far (p:=⟨gb433,0,none⟩) (Kd.R_types (Kd.R_types HO432.out BK433.out (by decide)) BK434.out (by decide)) (fun _ hk=>hk.1.2) (.slice Ao23 t427.length co23)) (fun _ hk=>hk.2) (.slice Ao26 t430.length co26)) (fun _ h_=>h_.1)) (fun _ h_=>h_.1))) hb);replace BK433:=am (blk_below (g:=gb433) (o:=.cells #[.slice Ao23 t427.length co23] 47 (0,0)) (by refine zk ?_;refine blk_far ?_ NB433_434.out _;refine zk ?_;refine blk_put (cs:=#[.slice none 0 0]) ?_ 0 _ rfl;refine zk ?_;exact BK433.out) hb);replace BK434:=am (blk_below (g:=gb434) (o:=.cells #[.slice Ao26 t430.length co26] 47 (0,0)) (by refine zk ?_;refine blk_put (cs:=#[.slice none 0 0]) ?_ 0 _ rfl;refine zk ?_;refine blk_far ?_ NB434_433.out _;refine zk ?_;exact BK434.out) hb);replace HB:=am (below_step zb hb);(try clear hb);have hcz29_0 : w28.cell? ⟨gb433,0,none⟩ = some (.slice Ao23 t427.length co23):=(blk_cell BK433.out 0).trans rfl;have hfz29_0:=blk_frozen BK433.out 0;have hcz30_0 : w28.cell? ⟨gb434,0,none⟩ = some (.slice Ao26 t430.length co26):=(blk_cell BK434.out 0).trans rfl;have hfz30_0:=blk_frozen BK434.out 0) |((with_reducible refine gate_callee (f:=33) rfl ?_);refine goesL_ (some 18) rfl rfl Tryd.func33 (by kernel_rfl) rfl #[.agg #[.slice Ao23 t427.length co23],.agg #[.slice Ao26 t430.length co26]] rfl zl ?_;(with_reducible refine(nat_number_less.calls k _ _ t427 _ _ t430 t436 _ ?side1 ?side2 ?side3 ?side4 A17.out).mono ?_);(case side1=>exact zC (Kd.R_reads' HO429.out).2.2);(case side2=>exact(Kd.R_reads' HO429.out).2.1);(case side3=>exact zC (Kd.R_reads' HO432.out).2.2);(case side4=>exact(Kd.R_reads' HO432.out).2.1);rintro e w31 ⟨v437,rfl,ho0,hb⟩;refine⟨_,rfl,?_⟩;have HO438:=am (Kd.R_lower (Kd.R_new' (Kd.R_new' (Kd.R_newM (M:=fun k_=>(w.heap.size≤k_)) ho0 (below_size zb) (fun k_ h_=>h_)) (Kd.R_lt (zR HO429.out))) (Kd.R_lt (zR HO432.out))) (below_size zb));replace HO429:=re HO429 (Kd.R_base ho0) hb;replace HO432:=re HO432 (Kd.R_base ho0) hb;replace BK433:=kb BK433 hb;replace BK434:=kb BK434 hb;replace HB:=am (below_step zb hb);(try clear hb);(try clear ho0);obtain⟨Ao32,co32,eo32⟩:=Kd.R_slice HO438.out;subst eo32) |((with_reducible refine gate_callee (f:=34) rfl ?_);refine goesL_ (some 19) rfl rfl Tryd.func34 (by kernel_rfl) rfl #[.agg #[.slice Ao32 t436.length co32]] rfl zl ?_;(with_reducible refine(nat_number_row.calls k _ _ t436 t439 _ ?side1 ?side2 A18.out).mono ?_);(case side1=>exact zC (Kd.R_reads' HO438.out).2.2);(case side2=>exact(Kd.R_reads' HO438.out).2.1);rintro e w33 ⟨v440,rfl,ho0,hb⟩;refine⟨_,rfl,?_⟩;replace HO429:=rb HO429 hb;replace HO432:=rb HO432 hb;replace HO438:=rb HO438 hb;have HO441:=am (Kd.R_lower (Kd.R_newM (M:=fun k_=>(w.heap.size≤k_)) ho0 (below_size zb) (fun k_ h_=>h_)) (below_size zb));replace BK433:=kb BK433 hb;replace BK434:=kb BK434 hb;replace HB:=am (below_step zb hb);(try clear hb);(try clear ho0)))
  go_ret2
  exact⟨_,zf,Kd.R_V (by refine zR ?_;exact Kd.R_mono HO441.out (fun _ hk=>hk.1)),zb⟩

/-! ### nat_Trim: function 16 -/
def nat_Trim.f (k : Nat) (l0 : List Int) : Option (List Int):=(nat_of.f k l0).bind fun t442=>((nat_number_row.f k t442).bind fun t445=>(some t445))
theorem nat_Trim.calls (k : Nat) (A0 : Option Addr) (c0 : Nat) (l0 : List Int) (r : List Int) (w : World) (hr0 : Kd.C (Kd.int .u32) w A0 l0.length l0) (hc0 : l0.length≤c0) (h : nat_Trim.f k l0 = some r) :
  Calls Tryd.prog 16 #[.slice A0 l0.length c0] w fun e w'=>∃ v0_ : Value,e = .returned (v0_)∧Kd.R (Kd.int .u32) 32 w' w.heap.size (fun _=>True) v0_ r∧Below w.heap.size w w':=by
 have HR0:=am hr0
 have HC0:=am hc0
 clear hr0 hc0
 have HB:=am (Below.refl w.heap.size w)
 have H : ((nat_of.f k l0).bind fun t442=>((nat_number_row.f k t442).bind fun t445=>(some t445))) = some r:=h
 clear h
 replace H:=Option.bind_eq_some_iff.mp H
 obtain⟨t442,A20,H⟩:=H
 try dsimp only at H
 have A2:=am A20
 clear A20
 replace H:=Option.bind_eq_some_iff.mp H
 obtain⟨t445,A30,H⟩:=H
 try dsimp only at H
 have A3:=am A30
 clear A30
 obtain rfl:=Option.some.inj H
 go_enter Tryd.func16,Tryd.ntmps16
 go_wp2_with (first |((with_reducible refine gate_callee (f:=31) rfl ?_);refine goesL_ (some 4) rfl rfl Tryd.func31 (by kernel_rfl) rfl #[.slice A0 l0.length c0] rfl zl ?_;(with_reducible refine(nat_of.calls k _ _ l0 t442 _ ?side1 ?side2 A2.out).mono ?_);(case side1=>exact zC HR0.out);(case side2=>exact HC0.out);rintro e w4 ⟨v443,rfl,ho0,hb⟩;refine⟨_,rfl,?_⟩;have HO444:=am (Kd.R_lower ho0 (below_size zb));replace HB:=am (below_step zb hb);(try clear hb);(try clear ho0);obtain⟨Ao5,co5,eo5⟩:=Kd.R_slice HO444.out;subst eo5) |((with_reducible refine gate_callee (f:=34) rfl ?_);refine goesL_ (some 5) rfl rfl Tryd.func34 (by kernel_rfl) rfl #[.agg #[.slice Ao5 t442.length co5]] rfl zl ?_;(with_reducible refine(nat_number_row.calls k _ _ t442 t445 _ ?side1 ?side2 A3.out).mono ?_);(case side1=>exact zC (Kd.R_reads' HO444.out).2.2);(case side2=>exact(Kd.R_reads' HO444.out).2.1);rintro e w6 ⟨v446,rfl,ho0,hb⟩;refine⟨_,rfl,?_⟩;replace HO444:=rb HO444 hb;have HO447:=am (Kd.R_lower ho0 (below_size zb));replace HB:=am (below_step zb hb);(try clear hb);(try clear ho0)))
 go_ret
 exact⟨_,zf,zR HO447.out,zb⟩

/-! ### nat_Right: function 17 -/
def nat_Right.l0 : Nat→List Int→List Int→Int→Int→Option (Bool)
 | 0,_,_,_,_=>none
 | k + 1,x0,x5,x6,x7=>if x7 < x6 then(if 0≤x7 then(if x7 < (x5.length : Int) then(if (rd x5 x7)≥1000000000 then(some false) else(nat_Right.l0 k x0 x5 x6 (wrap64 (x7 + 1)))) else(none)) else(none)) else(if (x0.length : Int) = 0 then(some true) else(if 0≤(wrap64 ((x0.length : Int) - 1)) then(if (wrap64 ((x0.length : Int) - 1)) < (x0.length : Int) then(some ((rd x0 (wrap64 ((x0.length : Int) - 1))) != 0)) else(none)) else(none)))
def nat_Right.f (k : Nat) (l0 : List Int) : Option (Bool):=nat_Right.l0 k l0 l0 (l0.length : Int) 0
theorem nat_Right.calls (k : Nat) (A0 : Option Addr) (c0 : Nat) (l0 : List Int) (r : Bool) (w : World) (hr0 : Kd.C (Kd.int .u32) w A0 l0.length l0) (hc0 : l0.length≤c0) (h : nat_Right.f k l0 = some r) :
  Calls Tryd.prog 17 #[.slice A0 l0.length c0] w fun e w'=>e = .returned (.bool r)∧Drawn0 w w':=by
 have HR0:=am hr0
 have HC0:=am hc0
 clear hr0 hc0
 have H : (nat_Right.l0 k l0 l0 (l0.length : Int) 0) = some r:=h
 clear h
 have H':=am H
 clear H
 go_enter Tryd.func17,Tryd.ntmps17
 go_wp2
 go_loopg [7] k (fun kq v7 w'=>∃ (x7_1 : Int),v7 = .int .i64 x7_1∧Aside0 (nat_Right.l0 kq l0 l0 (l0.length : Int) x7_1 = some r)∧Aside0 (kq≤k)∧Drawn0 w w')
 case atStart=>exact⟨(0),ze,H',⟨Nat.le_refl _⟩,by repeat (first | exact Drawn0.refl _ | apply Drawn0.step)⟩
 case round=>
  clear H'
  try clear c1
  obtain⟨x7_1,rfl,HA,HK1,⟨m1,rfl⟩⟩:=hrel
  cases gk with
  | zero=>exact absurd HA.out (by simp [nat_Right.l0])
  | succ k1=>
   have H:=HA.out
   clear HA
   simp only [nat_Right.l0] at H
   by_cases c2 : x7_1 < (l0.length : Int)
   ·rw [if_pos c2] at H
    have c2b0 : decide (x7_1 < (l0.length : Int)) = true:=decide_eq_true c2
    clear c2
    by_cases c3 : 0≤x7_1
    ·rw [if_pos c3] at H
     have c3b0 : decide (0≤x7_1) = true:=decide_eq_true c3
     clear c3
     by_cases c4 : x7_1 < (l0.length : Int)
     ·rw [if_pos c4] at H
      have c4b0 : decide (x7_1 < (l0.length : Int)) = true:=decide_eq_true c4
      clear c4
      by_cases c5 : (rd l0 x7_1)≥1000000000
      ·rw [if_pos c5] at H
       have c5b0 : decide (1000000000≤(rd l0 x7_1)) = true:=decide_eq_true c5
       clear c5
       obtain rfl:=Option.some.inj H
       have p448 : 0≤(x7_1 : Int):=of_decide_eq_true za
       have q448 : x7_1 < (l0.length : Int):=of_decide_eq_true za
       obtain⟨ad448,e448,hx448_0⟩:=Kd.at_int HR0.out x7_1 p448 q448
       cases e448
       replace p448:=eq_true p448
       replace q448:=eq_true q448
       go_wp2
       go_ret
       exact⟨ze,by repeat (first | exact Drawn0.refl _ | apply Drawn0.step)⟩
      ·rw [if_neg c5] at H
       have c5b0 : decide (1000000000≤(rd l0 x7_1)) = false:=decide_eq_false c5
       clear c5
       have H':=am H
       clear H
       have p448 : 0≤(x7_1 : Int):=of_decide_eq_true za
       have q448 : x7_1 < (l0.length : Int):=of_decide_eq_true za
       obtain⟨ad448,e448,hx448_0⟩:=Kd.at_int HR0.out x7_1 p448 q448
       cases e448
       replace p448:=eq_true p448
       replace q448:=eq_true q448
       go_wp2
       go_roundg k1
       case measure=>have:=HK1.out;omega
       case rel=>exact⟨(wrap64 (x7_1 + 1)),ze,H',⟨by have:=HK1.out;omega⟩,by repeat (first | exact Drawn0.refl _ | apply Drawn0.step)⟩
     ·rw [if_neg c4] at H
      exact absurd H (by simp)
    ·rw [if_neg c3] at H
     exact absurd H (by simp)
   ·rw [if_neg c2] at H
    have c2b0 : decide (x7_1 < (l0.length : Int)) = false:=decide_eq_false c2
    clear c2
    by_cases c6 : (l0.length : Int) = 0
    ·rw [if_pos c6] at H
     have c6b0 : ((l0.length : Int) == 0) = true:=beq_iff_eq.mpr c6
     have c6b1 : ((l0.length : Int) != 0) = false:=bne_eq_false_iff_eq.mpr c6
     clear c6
     obtain rfl:=Option.some.inj H
     go_wp2
     go_ret
     exact⟨ze,by repeat (first | exact Drawn0.refl _ | apply Drawn0.step)⟩
    ·rw [if_neg c6] at H
     have c6b0 : ((l0.length : Int) == 0) = false:=beq_eq_false_iff_ne.mpr c6
     have c6b1 : ((l0.length : Int) != 0) = true:=bne_iff_ne.mpr c6
     have c6b2 : ¬ (l0 = []):=fun h_=>c6 (by rw [h_];rfl)
     obtain⟨ji7,hji7⟩ : ∃ j_ : Int,(wrap64 ((l0.length : Int) - 1)) = j_:=⟨_,rfl⟩
     replace H : (if 0≤(ji7) then(if (ji7) < (l0.length : Int) then(some ((rd l0 (ji7)) != 0)) else(none)) else(none)) = some r:=by first |(rw [hji7] at H;exact H) |(simp only [hji7] at H ⊢;exact H)
     have hji7w : (IntKind.i64.wrap ((l0.length : Int) - 1)) = ji7:=(i64_w _).trans hji7
     by_cases c8 : 0≤(ji7)
     ·rw [if_pos c8] at H
      have c8b0 : decide (0≤(ji7)) = true:=decide_eq_true c8
      clear c8
      by_cases c9 : (ji7) < (l0.length : Int)
      ·rw [if_pos c9] at H
       have c9b0 : decide ((ji7) < (l0.length : Int)) = true:=decide_eq_true c9
       clear c9
       obtain rfl:=Option.some.inj H
       have p449 : 0≤((ji7) : Int):=of_decide_eq_true za
       have q449 : (ji7) < (l0.length : Int):=of_decide_eq_true za
       obtain⟨ad449,e449,hx449_0⟩:=Kd.at_int HR0.out (ji7) p449 q449
       cases e449
       replace p449:=eq_true p449
       replace q449:=eq_true q449
       go_wp2
       go_ret
       exact⟨by first | rfl |(simp;done) |(simp only [← hji7] <;> (first | rfl | simp)) |(simp [*];done),by repeat (first | exact Drawn0.refl _ | apply Drawn0.step)⟩
      ·rw [if_neg c9] at H
       exact absurd H (by simp)
     ·rw [if_neg c8] at H
      exact absurd H (by simp)

/-! ### nat_Cmp: function 19 -/
def nat_Cmp.f (k : Nat) (l0 : List Int) (l1 : List Int) : Option (Int):=(nat_of.f k l0).bind fun t450=>((nat_of.f k l1).bind fun t453=>((nat_number_compare.f k t450 t453).bind fun t456=>(some t456)))
theorem nat_Cmp.calls (k : Nat) (A0 : Option Addr) (c0 : Nat) (l0 : List Int) (A1 : Option Addr) (c1 : Nat) (l1 : List Int) (r : Int) (w : World) (hr0 : Kd.C (Kd.int .u32) w A0 l0.length l0) (hc0 : l0.length≤c0) (hr1 : Kd.C (Kd.int .u32) w A1 l1.length l1) (hc1 : l1.length≤c1) (h : nat_Cmp.f k l0 l1 = some r) :
  Calls Tryd.prog 19 #[.slice A0 l0.length c0,.slice A1 l1.length c1] w fun e w'=>e = .returned (.int .i64 r)∧Below w.heap.size w w':=by
 have HR0:=am hr0
 have HC0:=am hc0
 clear hr0 hc0
 have HR1:=am hr1
 have HC1:=am hc1
 clear hr1 hc1
 have HB:=am (Below.refl w.heap.size w)
 have H : ((nat_of.f k l0).bind fun t450=>((nat_of.f k l1).bind fun t453=>((nat_number_compare.f k t450 t453).bind fun t456=>(some t456)))) = some r:=h
 clear h
 replace H:=Option.bind_eq_some_iff.mp H
 obtain⟨t450,A30,H⟩:=H
 try dsimp only at H
 have A3:=am A30
 clear A30
 replace H:=Option.bind_eq_some_iff.mp H
 obtain⟨t453,A40,H⟩:=H
 try dsimp only at H
 have A4:=am A40
 clear A40
 replace H:=Option.bind_eq_some_iff.mp H
 obtain⟨t456,A50,H⟩:=H
 try dsimp only at H
 have A5:=am A50
 clear A50
 obtain rfl:=Option.some.inj H
 go_enter Tryd.func19,Tryd.ntmps19
 go_wp2_with (first |((with_reducible refine gate_callee (f:=31) rfl ?_);refine goesL_ (some 6) rfl rfl Tryd.func31 (by kernel_rfl) rfl #[.slice A0 l0.length c0] rfl zl ?_;(with_reducible refine(nat_of.calls k _ _ l0 t450 _ ?side1 ?side2 A3.out).mono ?_);(case side1=>exact zC HR0.out);(case side2=>exact HC0.out);rintro e w6 ⟨v451,rfl,ho0,hb⟩;refine⟨_,rfl,?_⟩;have HO452:=am (Kd.R_lower ho0 (below_size zb));replace HB:=am (below_step zb hb);(try clear hb);(try clear ho0)) |((with_reducible refine gate_callee (f:=31) rfl ?_);refine goesL_ (some 8) rfl rfl Tryd.func31 (by kernel_rfl) rfl #[.slice A1 l1.length c1] rfl zl ?_;(with_reducible refine(nat_of.calls k _ _ l1 t453 _ ?side1 ?side2 A4.out).mono ?_);(case side1=>repeat (first | exact(Kd.C_below HR1.out HB.out) |(with_reducible refine Kd.C_alloc ?_ _) |(with_reducible refine Kd.C_drewN ?_ _) |(with_reducible refine Kd.C_drew ?_)));(case side2=>exact HC1.out);rintro e w7 ⟨v454,rfl,ho0,hb⟩;refine⟨_,rfl,?_⟩;have HO455:=am (Kd.R_lower (Kd.R_new' ho0 (Kd.R_lt (zR HO452.out))) (below_size zb));replace HO452:=re HO452 (Kd.R_base ho0) hb;replace HB:=am (below_step zb hb);(try clear hb);(try clear ho0);obtain⟨Ao8,co8,eo8⟩:=Kd.R_slice HO452.out;subst eo8;obtain⟨Ao9,co9,eo9⟩:=Kd.R_slice HO455.out;subst eo9) |((with_reducible refine gate_callee (f:=32) rfl ?_);refine goesL_ (some 9) rfl rfl Tryd.func32 (by kernel_rfl) rfl #[.agg #[.slice Ao8 t450.length co8],.agg #[.slice Ao9 t453.length co9]] rfl zl ?_;(with_reducible refine(nat_number_compare.calls k _ _ t450 _ _ t453 t456 _ ?side1 ?side2 ?side3 ?side4 A5.out).mono ?_);(case side1=>exact zC (Kd.R_reads' HO452.out).2.2);(case side2=>exact(Kd.R_reads' HO452.out).2.1);(case side3=>exact zC (Kd.R_reads' HO455.out).2.2);(case side4=>exact(Kd.R_reads' HO455.out).2.1);rintro e w10 ⟨rfl,hb⟩;refine⟨_,rfl,?_⟩;replace HO452:=rb HO452 hb;replace HO455:=rb HO455 hb;replace HB:=am (below_step zb hb);(try clear hb);skip))
 go_ret
 exact⟨zf,zb⟩

end Go.Proofs.YtnkkndninilciaaDoor.X

-- Printed by xprint.py, this session's own program (wip/tool), out of the translation. Lean checks it.
import Derived.Test.YtcbohpmdeboeoaaGreatDoorRRZ
import Derived.Test.YtcbohpmdeboeoaaGreatDoorRRX0
import Derived.Test.YtcbohpmdeboeoaaGreatDoorRRX1
import Derived.Test.YtcbohpmdeboeoaaGreatDoorRRX3
namespace Go.Proofs.YtcbohpmdeboeoaaGreatDoorRR.X
open Go.Proofs.YtcbohpmdeboeoaaGreatDoorRR.Z
open Go.RowKit Go.Proofs.YtcbohpmdeboeoaaGreatDoorRRW.PrintWords Go.Proofs.YtcbohpmdeboeoaaGreatDoorRRW.PrintLast Go.Proofs.YtcbohpmdeboeoaaGreatDoorRRW.PrintMore
open List renaming setIfInBounds_toArray → sA, set_cons_zero → sZ, set_cons_succ → sS
open Aside0 renaming mk → am
open Bool renaming true → tt, false → ff
set_option maxHeartbeats 8000000
set_option maxRecDepth 100000
attribute [local go_sem] max2_int min2_int max_two min_two max_three min_three max_four min_four   -- for this text's walks alone
set_option linter.unusedVariables false
set_option linter.unusedSimpArgs false

/-! ### num_of: function 49 -/
def num_of.f (k : Nat) (a0_0 : Bool) (l0_1 : List Int) : Option (List Int×Bool):=(num_made.f k l0_1 a0_0).bind fun bt214=>(some (bt214.1,bt214.2))
theorem num_of.calls (k : Nat) (a0_0 : Bool) (A0_1 : Option Addr) (c0_1 : Nat) (l0_1 : List Int) (r1 : List Int) (r2 : Bool) (w : World) (hr0_1 : Kd.C (Kd.int .u32) w A0_1 l0_1.length l0_1) (hc0_1 : l0_1.length≤c0_1) (h : num_of.f k a0_0 l0_1 = some (r1,r2)) :
  Calls Tryz.prog 49 #[.agg #[.bool a0_0,.slice A0_1 l0_1.length c0_1]] w fun e w'=>∃ v0_ : Value,e = .returned (.agg #[v0_,.bool r2])∧Kd.R (Kd.int .u32) 60 w' w.heap.size (fun _=>True) v0_ r1∧Below w.heap.size w w':=by
 have hu25:=Tryz.underlying25
 have hu54:=Tryz.underlying54
 have HR0_1:=am hr0_1
 have HC0_1:=am hc0_1
 clear hr0_1 hc0_1
 have HB:=am (Below.refl w.heap.size w)
 have H : ((num_made.f k l0_1 a0_0).bind fun bt214=>(some (bt214.1,bt214.2))) = some (r1,r2):=h
 clear h
 replace H:=Option.bind_eq_some_iff.mp H
 obtain⟨⟨t214,t217⟩,A20,H⟩:=H
 try dsimp only at H
 have A2:=am A20
 clear A20
 simp only [Option.some.injEq,Prod.mk.injEq] at H
 obtain⟨rfl,rfl⟩:=H
 go_enter Tryz.func49,Tryz.ntmps49
 go_wp2_with (first |((with_reducible refine gate_dst (N:=1) rfl ?_);refine box_event ?hg (N:=1) ?hd (cs:=#[.bool a0_0,.slice A0_1 l0_1.length c0_1]) (t:=25) ?hr ?_;(case hd=>rfl);(case hg=>rfl);(case hr=>exact zh);intro gb212 hg w3 hbox hb;have BK212:=am (hbox);have GW212:=gw w hg;have GE212:=gw w hg;replace HB:=am (below_step zb hb);clear hb hbox hg) |((with_reducible refine gate_dst (N:=2) rfl ?_);refine box_event ?hg (N:=2) ?hd (cs:=#[.slice none 0 0,.bool false]) (t:=54) ?hr ?_;(case hd=>rfl);(case hg=>rfl);(case hr=>exact zh);intro gb213 hg w4 hbox hb;have BK213:=am (hbox);have GW213:=gw w hg;have GE213:=gw w hg;replace HB:=am (below_step zb hb);have NB212_213:=nl BK212 hg;have NB213_212:=nr BK212 hg;replace BK212:=kb BK212 hb;clear hb hbox hg;have hnb5:=NB212_213.out;have hnc5:=NB213_212.out;have hcz6_0 : w4.cell? ⟨gb212,0,none⟩ = some (.bool a0_0):=(blk_cell BK212.out 0).trans rfl;have hcz6_1 : w4.cell? ⟨gb212,1,none⟩ = some (.slice A0_1 l0_1.length c0_1):=(blk_cell BK212.out 1).trans rfl;have hfz6_0:=blk_frozen BK212.out 0;have hfz6_1:=blk_frozen BK212.out 1) |((with_reducible refine gate_callee (f:=29) rfl ?_);refine goesL_ (some 7) rfl rfl Tryz.func29 (by kernel_rfl) rfl #[.slice A0_1 l0_1.length c0_1,.bool a0_0] rfl zl ?_;(with_reducible refine(num_made.calls k _ _ l0_1 a0_0 t214 t217 _ ?side1 ?side2 A2.out).mono ?_);(case side1=>repeat (first | exact(Kd.C_below HR0_1.out HB.out) |(with_reducible refine Kd.C_alloc ?_ _) |(with_reducible refine Kd.C_drewN ?_ _) |(with_reducible refine Kd.C_drew ?_)));(case side2=>exact HC0_1.out);rintro e w7 ⟨v215,rfl,ho0,hb⟩;refine⟨_,rfl,?_⟩;have HO216:=am (Kd.R_lower ho0 (below_size zb));replace BK212:=kb BK212 hb;replace BK213:=kb BK213 hb;replace HB:=am (below_step zb hb);(try clear hb);(try clear ho0);obtain⟨Ao8,co8,eo8⟩:=Kd.R_slice HO216.out;subst eo8;have hcz9_0 : w7.cell? ⟨gb213,0,none⟩ = some (.slice none 0 0):=(blk_cell BK213.out 0).trans rfl;have hcz9_1 : w7.cell? ⟨gb213,1,none⟩ = some (.bool false):=(blk_cell BK213.out 1).trans rfl;have hfz9_0:=blk_frozen BK213.out 0;have hfz9_1:=blk_frozen BK213.out 1))
 refine bodyPost_ret (results_cell_row rfl _ _ gb213 54 #[.slice Ao8 t214.length co8,.bool t217] (0,0) _ rfl (by refine zk ?_;refine blk_put (cs:=#[.slice Ao8 t214.length co8,.bool false]) ?_ 1 _ rfl;refine zk ?_;refine blk_put (cs:=#[.slice none 0 0,.bool false]) ?_ 0 _ rfl;refine zk ?_;exact BK213.out) Tryz.underlying54 rfl (by kernel_rfl)) rfl ?_
 exact⟨_,zf,by refine zR ?_;exact Kd.R_mono (Kd.R_far (p:=⟨gb213,1,none⟩) (Kd.R_far (p:=⟨gb213,0,none⟩) (Kd.R_types HO216.out BK213.out (by decide)) (fun _ hk=>hk.2) (.slice Ao8 t214.length co8)) (fun _ hk=>hk.2) (.bool t217)) (fun _ hk=>trivial),zb⟩

-- NOT PRINTED: function 37 (num_together)

/-! ### nat_number_less: function 89 -/
def nat_number_less.l0 : Nat→List Int→Int→Int→Int→List Int→List Int→Option (List Int)
 | 0,_,_,_,_,_,_=>none
 | k + 1,x5,x6,x14,x15,x220000,x221000=>if x15 < x14 then((nat_digits_at.f x220000 x15).bind fun t225=>((nat_digits_at.f x221000 x15).bind fun t226=>(if 0≤x15 then(if x15 < (x5.length : Int) then(nat_number_less.l0 k (x5.set (x15 : Int).toNat (Int.tmod (IntKind.u64.wrap ((IntKind.u64.wrap ((IntKind.u64.wrap (t225 + 1000000000)) - t226)) - x6)) 1000000000)) (IntKind.u64.wrap (1 - (IntKind.u64.wrap (Int.tdiv (IntKind.u64.wrap ((IntKind.u64.wrap ((IntKind.u64.wrap (t225 + 1000000000)) - t226)) - x6)) 1000000000)))) x14 (wrap64 (x15 + 1)) x220000 x221000) else(none)) else(none)))) else((nat_carried.f k x5).bind fun t228=>(some t228))
def nat_number_less.f (k : Nat) (l0_0 : List Int) (l1_0 : List Int) : Option (List Int):=if 0≤(l0_0.length : Int) then(if ((l0_0.length : Int) : Int).toNat≤35184372088832 then((some (List.replicate ((l0_0.length : Int) : Int).toNat 0 : List Int)).bind fun y222=>(nat_number_less.l0 k y222 0 (y222.length : Int) 0 l0_0 l1_0)) else(none)) else(none)
theorem nat_number_less.calls (k : Nat) (A0_0 : Option Addr) (c0_0 : Nat) (l0_0 : List Int) (A1_0 : Option Addr) (c1_0 : Nat) (l1_0 : List Int) (r : List Int) (w : World) (hr0_0 : Kd.C (Kd.int .u64) w A0_0 l0_0.length l0_0) (hc0_0 : l0_0.length≤c0_0) (hr1_0 : Kd.C (Kd.int .u64) w A1_0 l1_0.length l1_0) (hc1_0 : l1_0.length≤c1_0) (h : nat_number_less.f k l0_0 l1_0 = some r) :
  Calls Tryz.prog 89 #[.agg #[.slice A0_0 l0_0.length c0_0],.agg #[.slice A1_0 l1_0.length c1_0]] w fun e w'=>∃ v0_ : Value,e = .returned (.agg #[v0_])∧Kd.R (Kd.int .u64) 59 w' w.heap.size (fun _=>True) v0_ r∧Below w.heap.size w w':=by
 have hu83:=Tryz.underlying83
 have HR0_0:=am hr0_0
 have HC0_0:=am hc0_0
 clear hr0_0 hc0_0
 have HR1_0:=am hr1_0
 have HC1_0:=am hc1_0
 clear hr1_0 hc1_0
 have HB:=am (Below.refl w.heap.size w)
 have H : (if 0≤(l0_0.length : Int) then(if ((l0_0.length : Int) : Int).toNat≤35184372088832 then((some (List.replicate ((l0_0.length : Int) : Int).toNat 0 : List Int)).bind fun y222=>(nat_number_less.l0 k y222 0 (y222.length : Int) 0 l0_0 l1_0)) else(none)) else(none)) = some r:=h
 clear h
 by_cases c3 : 0≤(l0_0.length : Int)
 ·rw [if_pos c3] at H
  have c3b0:=eq_true c3
  have c3b1 : decide (0≤(l0_0.length : Int)) = true:=decide_eq_true c3
  clear c3
  by_cases c4 : ((l0_0.length : Int) : Int).toNat≤35184372088832
  ·rw [if_pos c4] at H
   have c4b0:=eq_true c4
   have c4b1 : decide (((l0_0.length : Int) : Int).toNat≤35184372088832) = true:=decide_eq_true c4
   clear c4
   obtain⟨y222,hy222⟩ : ∃ y_ : List Int,y_ = (List.replicate ((l0_0.length : Int) : Int).toNat 0):=⟨_,rfl⟩
   replace H : (nat_number_less.l0 k y222 0 (y222.length : Int) 0 l0_0 l1_0) = some r:=by first |(rw [hy222];with_reducible exact H) |(have H2_:=(Option.bind_some _ _).symm.trans H;rw [hy222];with_reducible exact H2_) |(have H2_:=(Option.bind_some _ _).symm.trans H;with_reducible exact H2_) | with_reducible exact H |(rw [hy222];exact H) | exact H
   have Ny222:=am hy222
   clear hy222
   have H':=am H
   clear H
   go_enter Tryz.func89,Tryz.ntmps89
   go_wp2_with (first |((with_reducible refine gate_dst (N:=2) rfl ?_);refine box_event ?hg (N:=2) ?hd (cs:=#[.slice A0_0 l0_0.length c0_0]) (t:=83) ?hr ?_;(case hd=>rfl);(case hg=>rfl);(case hr=>exact zh);intro gb219 hg w5 hbox hb;have BK219:=am (hbox);have GW219:=gw w hg;have GE219:=gw w hg;replace HB:=am (below_step zb hb);clear hb hbox hg) |((with_reducible refine gate_dst (N:=3) rfl ?_);refine box_event ?hg (N:=3) ?hd (cs:=#[.slice A1_0 l1_0.length c1_0]) (t:=83) ?hr ?_;(case hd=>rfl);(case hg=>rfl);(case hr=>exact zh);intro gb220 hg w6 hbox hb;have BK220:=am (hbox);have GW220:=gw w hg;have GE220:=gw w hg;replace HB:=am (below_step zb hb);have NB219_220:=nl BK219 hg;have NB220_219:=nr BK219 hg;replace BK219:=kb BK219 hb;clear hb hbox hg) |((with_reducible refine gate_dst (N:=4) rfl ?_);refine box_event ?hg (N:=4) ?hd (cs:=#[.slice none 0 0]) (t:=83) ?hr ?_;(case hd=>rfl);(case hg=>rfl);(case hr=>exact zh);intro gb221 hg w7 hbox hb;have BK221:=am (hbox);have GW221:=gw w hg;have GE221:=gw w hg;replace HB:=am (below_step zb hb);have NB219_221:=nl BK219 hg;have NB221_219:=nr BK219 hg;replace BK219:=kb BK219 hb;have NB220_221:=nl BK220 hg;have NB221_220:=nr BK220 hg;replace BK220:=kb BK220 hb;clear hb hbox hg;have hnb8:=NB219_220.out;have hnc8:=NB220_219.out;have hnb9:=NB219_221.out;have hnc9:=NB221_219.out;have hcz10_0 : w7.cell? ⟨gb219,0,none⟩ = some (.slice A0_0 l0_0.length c0_0):=(blk_cell BK219.out 0).trans rfl;have hfz10_0:=blk_frozen BK219.out 0) |((with_reducible refine gate_dst (N:=12) rfl ?_);refine Kd.R_make (Kd.int .u64) _ 59 rfl (N:=12) rfl 77 _ _ rfl (l0_0.length : Int) rfl rfl Tryz.underlying77 (.int .u64 0) 8 info59 rfl (by decide) (by omega) 0 (ok:=fun _=>True) (okp:=fun _=>True) rfl (fun _ hk=>hk) trivial (of_decide_eq_true za) (Nat.le_trans (Nat.mul_le_mul_right _ (of_decide_eq_true za : (l0_0.length : Int).toNat≤35184372088832)) (by omega)) (Below.refl _ _) (Nat.le_refl _) ?_;intro v223 w11 ho12 hb hg_ hnew_;clear hg_ hnew_;(first | rw [← Ny222.out] at ho12 |(simp only [Int.reduceToNat] at ho12;rw [← Ny222.out] at ho12));have HO224:=am (Kd.R_lower ho12 (below_size zb));replace BK219:=kb BK219 hb;replace BK220:=kb BK220 hb;replace BK221:=kb BK221 hb;replace HB:=am (below_step zb hb);clear hb ho12;obtain⟨Ao13,co13,eo13⟩:=Kd.R_slice HO224.out;subst eo13))
   repeat (go_quiet (first |((with_reducible refine gate_dst (N:=2) rfl ?_);refine box_event ?hg (N:=2) ?hd (cs:=#[.slice A0_0 l0_0.length c0_0]) (t:=83) ?hr ?_;(case hd=>rfl);(case hg=>rfl);(case hr=>exact zh);intro gb219 hg w5 hbox hb;have BK219:=am (hbox);have GW219:=gw w hg;have GE219:=gw w hg;replace HB:=am (below_step zb hb);clear hb hbox hg) |((with_reducible refine gate_dst (N:=3) rfl ?_);refine box_event ?hg (N:=3) ?hd (cs:=#[.slice A1_0 l1_0.length c1_0]) (t:=83) ?hr ?_;(case hd=>rfl);(case hg=>rfl);(case hr=>exact zh);intro gb220 hg w6 hbox hb;have BK220:=am (hbox);have GW220:=gw w hg;have GE220:=gw w hg;replace HB:=am (below_step zb hb);have NB219_220:=nl BK219 hg;have NB220_219:=nr BK219 hg;replace BK219:=kb BK219 hb;clear hb hbox hg) |((with_reducible refine gate_dst (N:=4) rfl ?_);refine box_event ?hg (N:=4) ?hd (cs:=#[.slice none 0 0]) (t:=83) ?hr ?_;(case hd=>rfl);(case hg=>rfl);(case hr=>exact zh);intro gb221 hg w7 hbox hb;have BK221:=am (hbox);have GW221:=gw w hg;have GE221:=gw w hg;replace HB:=am (below_step zb hb);have NB219_221:=nl BK219 hg;have NB221_219:=nr BK219 hg;replace BK219:=kb BK219 hb;have NB220_221:=nl BK220 hg;have NB221_220:=nr BK220 hg;replace BK220:=kb BK220 hb;clear hb hbox hg;have hnb8:=NB219_220.out;have hnc8:=NB220_219.out;have hnb9:=NB219_221.out;have hnc9:=NB221_219.out;have hcz10_0 : w7.cell? ⟨gb219,0,none⟩ = some (.slice A0_0 l0_0.length c0_0):=(blk_cell BK219.out 0).trans rfl;have hfz10_0:=blk_frozen BK219.out 0) |((with_reducible refine gate_dst (N:=12) rfl ?_);refine Kd.R_make (Kd.int .u64) _ 59 rfl (N:=12) rfl 77 _ _ rfl (l0_0.length : Int) rfl rfl Tryz.underlying77 (.int .u64 0) 8 info59 rfl (by decide) (by omega) 0 (ok:=fun _=>True) (okp:=fun _=>True) rfl (fun _ hk=>hk) trivial (of_decide_eq_true za) (Nat.le_trans (Nat.mul_le_mul_right _ (of_decide_eq_true za : (l0_0.length : Int).toNat≤35184372088832)) (by omega)) (Below.refl _ _) (Nat.le_refl _) ?_;intro v223 w11 ho12 hb hg_ hnew_;clear hg_ hnew_;(first | rw [← Ny222.out] at ho12 |(simp only [Int.reduceToNat] at ho12;rw [← Ny222.out] at ho12));have HO224:=am (Kd.R_lower ho12 (below_size zb));replace BK219:=kb BK219 hb;replace BK220:=kb BK220 hb;replace BK221:=kb BK221 hb;replace HB:=am (below_step zb hb);clear hb ho12;obtain⟨Ao13,co13,eo13⟩:=Kd.R_slice HO224.out;subst eo13));try go_wp2_with (first |((with_reducible refine gate_dst (N:=2) rfl ?_);refine box_event ?hg (N:=2) ?hd (cs:=#[.slice A0_0 l0_0.length c0_0]) (t:=83) ?hr ?_;(case hd=>rfl);(case hg=>rfl);(case hr=>exact zh);intro gb219 hg w5 hbox hb;have BK219:=am (hbox);have GW219:=gw w hg;have GE219:=gw w hg;replace HB:=am (below_step zb hb);clear hb hbox hg) |((with_reducible refine gate_dst (N:=3) rfl ?_);refine box_event ?hg (N:=3) ?hd (cs:=#[.slice A1_0 l1_0.length c1_0]) (t:=83) ?hr ?_;(case hd=>rfl);(case hg=>rfl);(case hr=>exact zh);intro gb220 hg w6 hbox hb;have BK220:=am (hbox);have GW220:=gw w hg;have GE220:=gw w hg;replace HB:=am (below_step zb hb);have NB219_220:=nl BK219 hg;have NB220_219:=nr BK219 hg;replace BK219:=kb BK219 hb;clear hb hbox hg) |((with_reducible refine gate_dst (N:=4) rfl ?_);refine box_event ?hg (N:=4) ?hd (cs:=#[.slice none 0 0]) (t:=83) ?hr ?_;(case hd=>rfl);(case hg=>rfl);(case hr=>exact zh);intro gb221 hg w7 hbox hb;have BK221:=am (hbox);have GW221:=gw w hg;have GE221:=gw w hg;replace HB:=am (below_step zb hb);have NB219_221:=nl BK219 hg;have NB221_219:=nr BK219 hg;replace BK219:=kb BK219 hb;have NB220_221:=nl BK220 hg;have NB221_220:=nr BK220 hg;replace BK220:=kb BK220 hb;clear hb hbox hg;have hnb8:=NB219_220.out;have hnc8:=NB220_219.out;have hnb9:=NB219_221.out;have hnc9:=NB221_219.out;have hcz10_0 : w7.cell? ⟨gb219,0,none⟩ = some (.slice A0_0 l0_0.length c0_0):=(blk_cell BK219.out 0).trans rfl;have hfz10_0:=blk_frozen BK219.out 0) |((with_reducible refine gate_dst (N:=12) rfl ?_);refine Kd.R_make (Kd.int .u64) _ 59 rfl (N:=12) rfl 77 _ _ rfl (l0_0.length : Int) rfl rfl Tryz.underlying77 (.int .u64 0) 8 info59 rfl (by decide) (by omega) 0 (ok:=fun _=>True) (okp:=fun _=>True) rfl (fun _ hk=>hk) trivial (of_decide_eq_true za) (Nat.le_trans (Nat.mul_le_mul_right _ (of_decide_eq_true za : (l0_0.length : Int).toNat≤35184372088832)) (by omega)) (Below.refl _ _) (Nat.le_refl _) ?_;intro v223 w11 ho12 hb hg_ hnew_;clear hg_ hnew_;(first | rw [← Ny222.out] at ho12 |(simp only [Int.reduceToNat] at ho12;rw [← Ny222.out] at ho12));have HO224:=am (Kd.R_lower ho12 (below_size zb));replace BK219:=kb BK219 hb;replace BK220:=kb BK220 hb;replace BK221:=kb BK221 hb;replace HB:=am (below_step zb hb);clear hb ho12;obtain⟨Ao13,co13,eo13⟩:=Kd.R_slice HO224.out;subst eo13)))
   go_loopg [6,15] k (fun kq v6 v15 w'=>∃ (x5_1 : List Int) (x6_1 : Int) (x15_1 : Int),v6 = .int .u64 x6_1∧v15 = .int .i64 x15_1∧Aside0 (nat_number_less.l0 kq x5_1 x6_1 (y222.length : Int) x15_1 l0_0 l1_0 = some r)∧Aside0 (kq≤k)∧Aside0 (Kd.R (Kd.int .u64) 59 w' w.heap.size (fun _=>True) (.slice Ao13 y222.length co13) x5_1)∧Aside0 (w'.heap[gb219]? = some (.cells #[(.slice A0_0 l0_0.length c0_0)] 83 (0,0)))∧Aside0 (w'.heap[gb220]? = some (.cells #[(.slice A1_0 l1_0.length c1_0)] 83 (0,0)))∧Aside0 (w'.heap[gb221]? = some (.cells #[(.slice none 0 0)] 83 (0,0)))∧Aside0 (Below w.heap.size w w'))
   case atStart=>exact⟨(y222),(0),(0),ze,ze,H',⟨Nat.le_refl _⟩,⟨zR HO224.out⟩,⟨zk BK219.out⟩,⟨zk BK220.out⟩,⟨zk BK221.out⟩,⟨zb⟩⟩
   case round=>
    clear H'
    try clear c1
    try clear p2
    try clear c3
    try clear c3b0
    try clear c3b1
    try clear c4
    try clear c4b0
    try clear c4b1
    try clear c8
    try clear c9
    try clear hcz10_0
    try clear hfz10_0
    obtain⟨x5_1,x6_1,x15_1,rfl,rfl,HA,HK1,HO_5,BK219,BK220,BK221,HB⟩:=hrel
    have hl5_1:=(Kd.R_reads' HO_5.out).1
    rw [hl5_1] at HO_5
    (try simp only [hl5_1])
    (try simp only [hl5_1] at BK219)
    (try simp only [hl5_1] at BK220)
    (try simp only [hl5_1] at BK221)
    cases gk with
    | zero=>exact absurd HA.out (by simp [nat_number_less.l0])
    | succ k1=>
     have H:=HA.out
     clear HA
     simp only [nat_number_less.l0] at H
     by_cases c14 : x15_1 < (y222.length : Int)
     ·rw [if_pos c14] at H
      have c14b0 : decide (x15_1 < (y222.length : Int)) = true:=decide_eq_true c14
      (try simp only [hl5_1] at c14b0)
      clear c14
      replace H:=Option.bind_eq_some_iff.mp H
      obtain⟨t225,A150,H⟩:=H
      try dsimp only at H
      have A15:=am A150
      clear A150
      replace H:=Option.bind_eq_some_iff.mp H
      obtain⟨t226,A160,H⟩:=H
      try dsimp only at H
      have A16:=am A160
      clear A160
      by_cases c17 : 0≤x15_1
      ·rw [if_pos c17] at H
       have c17b0 : decide (0≤x15_1) = true:=decide_eq_true c17
       clear c17
       by_cases c18 : x15_1 < (x5_1.length : Int)
       ·rw [if_pos c18] at H
        have c18b0 : decide (x15_1 < (x5_1.length : Int)) = true:=decide_eq_true c18
        (try simp only [hl5_1] at c18b0)
        clear c18
        obtain⟨y227,hy227⟩ : ∃ y_ : List Int,y_ = (x5_1.set (x15_1 : Int).toNat (Int.tmod (IntKind.u64.wrap ((IntKind.u64.wrap ((IntKind.u64.wrap (t225 + 1000000000)) - t226)) - x6_1)) 1000000000)):=⟨_,rfl⟩
        replace H : (nat_number_less.l0 k1 y227 (IntKind.u64.wrap (1 - (IntKind.u64.wrap (Int.tdiv (IntKind.u64.wrap ((IntKind.u64.wrap ((IntKind.u64.wrap (t225 + 1000000000)) - t226)) - x6_1)) 1000000000)))) (y222.length : Int) (wrap64 (x15_1 + 1)) l0_0 l1_0) = some r:=by first |(rw [hy227];with_reducible exact H) |(have H2_:=(Option.bind_some _ _).symm.trans H;rw [hy227];with_reducible exact H2_) |(have H2_:=(Option.bind_some _ _).symm.trans H;with_reducible exact H2_) | with_reducible exact H |(rw [hy227];exact H) | exact H
        have Ny227:=am hy227
        clear hy227
        have H':=am H
        clear H
        have hnb20:=NB219_220.out
        have hnc20:=NB220_219.out
        have hnb21:=NB219_221.out
        have hnc21:=NB221_219.out
        have hcz22_0 : wr.cell? ⟨gb219,0,none⟩ = some (.slice A0_0 l0_0.length c0_0):=(blk_cell BK219.out 0).trans rfl
        have hfz22_0:=blk_frozen BK219.out 0
        go_wp2_with (first |(go_at_call 79;(with_reducible refine(nat_digits_at.calls _ _ l0_0 x15_1 t225 _ ?side1 ?side2 A15.out).mono ?_);(case side1=>repeat (first | exact(Kd.C_below HR0_0.out HB.out) |(with_reducible refine Kd.C_alloc ?_ _) |(with_reducible refine Kd.C_drewN ?_ _) |(with_reducible refine Kd.C_drew ?_)));(case side2=>exact HC0_0.out);rintro e w' ⟨rfl,⟨nd,rfl⟩⟩;(try first | exact⟨rfl,_,World.drewN_drewN _ _ _⟩ | exact⟨rfl,_,Eq.trans (World.drewN_drewN _ _ _) (congrArg (World.drewN _) (Nat.add_assoc _ _ _))⟩);have hnb23:=NB220_221.out;have hnc23:=NB221_220.out;have hcz24_0 : wr.cell? ⟨gb220,0,none⟩ = some (.slice A1_0 l1_0.length c1_0):=(blk_cell BK220.out 0).trans rfl;have hfz24_0:=blk_frozen BK220.out 0) |(go_at_call 79;(with_reducible refine(nat_digits_at.calls _ _ l1_0 x15_1 t226 _ ?side1 ?side2 A16.out).mono ?_);(case side1=>repeat (first | exact(Kd.C_below HR1_0.out zb) |(with_reducible refine Kd.C_alloc ?_ _) |(with_reducible refine Kd.C_drewN ?_ _) |(with_reducible refine Kd.C_drew ?_)));(case side2=>exact HC1_0.out);rintro e w' ⟨rfl,⟨nd,rfl⟩⟩;(try first | exact⟨rfl,_,World.drewN_drewN _ _ _⟩ | exact⟨rfl,_,Eq.trans (World.drewN_drewN _ _ _) (congrArg (World.drewN _) (Nat.add_assoc _ _ _))⟩);have p19 : 0≤(x15_1 : Int):=of_decide_eq_true za;have q19 : (x15_1 : Int) < ((x5_1.length : Int) : Int):=of_decide_eq_true za;obtain⟨go19,co19,eo19,gb19,gl19,cl19,HG19⟩:=Kd.R_form HO_5.out (by omega);(first | cases eo19 |(injection eo19 with ea_ en_ ec_;(first | subst ea_ |(injection ea_ with ea_;subst ea_));subst ec_;clear en_));have GB19:=am gb19;have GG19:=am HG19;clear gb19 gl19 HG19;obtain⟨hx19_0,hf19_0⟩:=Kd.R_celln 0 HO_5.out (x15_1 : Int) p19 q19;replace p19:=eq_true p19;replace q19:=eq_true q19;obtain⟨hy25_,hz25_⟩:=Kd.R_celln 0 HO_5.out (x15_1 : Int) (of_decide_eq_true za) (of_decide_eq_true za);have HP25:=Kd.R_putg HO_5.out (x15_1 : Int) (Int.tmod (IntKind.u64.wrap ((IntKind.u64.wrap ((IntKind.u64.wrap (t225 + 1000000000)) - t226)) - x6_1)) 1000000000)) |((with_reducible refine gate_store (t:=59) (p:=37) rfl ?_);(try (rw [drewN_self wr];generalize hq_ : World.drewN wr _ = wr;have n0_:=am (Kd.R_at hq_ HO_5.out);have n1_:=am (blk_at hq_ BK219.out);have n2_:=am (blk_at hq_ BK220.out);have n3_:=am (blk_at hq_ BK221.out);have n4_:=am (below_at hq_ HB.out);clear hq_ HO_5 BK219 BK220 BK221 HB;have HO_5:=n0_;have BK219:=n1_;have BK220:=n2_;have BK221:=n3_;have HB:=n4_;clear n0_ n1_ n2_ n3_ n4_;(try (obtain⟨hy25_,hz25_⟩:=Kd.R_celln 0 HO_5.out (x15_1 : Int) (of_decide_eq_true za) (of_decide_eq_true za)));(try (have HP25:=Kd.R_putg HO_5.out (x15_1 : Int) (Int.tmod (IntKind.u64.wrap ((IntKind.u64.wrap ((IntKind.u64.wrap (t225 + 1000000000)) - t226)) - x6_1)) 1000000000)))));refine store_event (t:=59) (p:=37) (v:=?vo_w26) (w1:=(wr.setCell ⟨go19,(x15_1 : Int).toNat,none⟩ (.int .u64 (Int.tmod (IntKind.u64.wrap ((IntKind.u64.wrap ((IntKind.u64.wrap (t225 + 1000000000)) - t226)) - x6_1)) 1000000000)))) ?hg ?ho ?hn ?hr ?_;(case ho=>rfl);(case hg=>rfl);(case hn=>rfl);(case hr=>exact zh);intro w26 hw;have hg : wr.grownBy w26 (some go19):=(by rw [hw];exact HP25.2);have hp_ : Kd.R (Kd.int .u64) 59 w26 w.heap.size (fun _=>True) (.slice (some ⟨go19,0,none⟩) x5_1.length co13) y227:=(by rw [hw,Ny227.out];exact HP25.1);clear HP25;replace BK219:=am (blk_grown (zk BK219.out) hg (Kd.R_ne HO_5.out BK219.out (by decide)));replace BK220:=am (blk_grown (zk BK220.out) hg (Kd.R_ne HO_5.out BK220.out (by decide)));replace BK221:=am (blk_grown (zk BK221.out) hg (Kd.R_ne HO_5.out BK221.out (by decide)));replace HO_5:=am (hp_);replace HB:=am ((by rw [hw];exact below_set (HB.out) GB19.out : Below w.heap.size w w26));clear hg hw hp_))
        repeat (go_quiet (first |(go_at_call 79;(with_reducible refine(nat_digits_at.calls _ _ l0_0 x15_1 t225 _ ?side1 ?side2 A15.out).mono ?_);(case side1=>repeat (first | exact(Kd.C_below HR0_0.out HB.out) |(with_reducible refine Kd.C_alloc ?_ _) |(with_reducible refine Kd.C_drewN ?_ _) |(with_reducible refine Kd.C_drew ?_)));(case side2=>exact HC0_0.out);rintro e w' ⟨rfl,⟨nd,rfl⟩⟩;(try first | exact⟨rfl,_,World.drewN_drewN _ _ _⟩ | exact⟨rfl,_,Eq.trans (World.drewN_drewN _ _ _) (congrArg (World.drewN _) (Nat.add_assoc _ _ _))⟩);have hnb23:=NB220_221.out;have hnc23:=NB221_220.out;have hcz24_0 : wr.cell? ⟨gb220,0,none⟩ = some (.slice A1_0 l1_0.length c1_0):=(blk_cell BK220.out 0).trans rfl;have hfz24_0:=blk_frozen BK220.out 0) |(go_at_call 79;(with_reducible refine(nat_digits_at.calls _ _ l1_0 x15_1 t226 _ ?side1 ?side2 A16.out).mono ?_);(case side1=>repeat (first | exact(Kd.C_below HR1_0.out zb) |(with_reducible refine Kd.C_alloc ?_ _) |(with_reducible refine Kd.C_drewN ?_ _) |(with_reducible refine Kd.C_drew ?_)));(case side2=>exact HC1_0.out);rintro e w' ⟨rfl,⟨nd,rfl⟩⟩;(try first | exact⟨rfl,_,World.drewN_drewN _ _ _⟩ | exact⟨rfl,_,Eq.trans (World.drewN_drewN _ _ _) (congrArg (World.drewN _) (Nat.add_assoc _ _ _))⟩);have p19 : 0≤(x15_1 : Int):=of_decide_eq_true za;have q19 : (x15_1 : Int) < ((x5_1.length : Int) : Int):=of_decide_eq_true za;obtain⟨go19,co19,eo19,gb19,gl19,cl19,HG19⟩:=Kd.R_form HO_5.out (by omega);(first | cases eo19 |(injection eo19 with ea_ en_ ec_;(first | subst ea_ |(injection ea_ with ea_;subst ea_));subst ec_;clear en_));have GB19:=am gb19;have GG19:=am HG19;clear gb19 gl19 HG19;obtain⟨hx19_0,hf19_0⟩:=Kd.R_celln 0 HO_5.out (x15_1 : Int) p19 q19;replace p19:=eq_true p19;replace q19:=eq_true q19;obtain⟨hy25_,hz25_⟩:=Kd.R_celln 0 HO_5.out (x15_1 : Int) (of_decide_eq_true za) (of_decide_eq_true za);have HP25:=Kd.R_putg HO_5.out (x15_1 : Int) (Int.tmod (IntKind.u64.wrap ((IntKind.u64.wrap ((IntKind.u64.wrap (t225 + 1000000000)) - t226)) - x6_1)) 1000000000)) |((with_reducible refine gate_store (t:=59) (p:=37) rfl ?_);(try (rw [drewN_self wr];generalize hq_ : World.drewN wr _ = wr;have n0_:=am (Kd.R_at hq_ HO_5.out);have n1_:=am (blk_at hq_ BK219.out);have n2_:=am (blk_at hq_ BK220.out);have n3_:=am (blk_at hq_ BK221.out);have n4_:=am (below_at hq_ HB.out);clear hq_ HO_5 BK219 BK220 BK221 HB;have HO_5:=n0_;have BK219:=n1_;have BK220:=n2_;have BK221:=n3_;have HB:=n4_;clear n0_ n1_ n2_ n3_ n4_;(try (obtain⟨hy25_,hz25_⟩:=Kd.R_celln 0 HO_5.out (x15_1 : Int) (of_decide_eq_true za) (of_decide_eq_true za)));(try (have HP25:=Kd.R_putg HO_5.out (x15_1 : Int) (Int.tmod (IntKind.u64.wrap ((IntKind.u64.wrap ((IntKind.u64.wrap (t225 + 1000000000)) - t226)) - x6_1)) 1000000000)))));refine store_event (t:=59) (p:=37) (v:=?vo_w26) (w1:=(wr.setCell ⟨go19,(x15_1 : Int).toNat,none⟩ (.int .u64 (Int.tmod (IntKind.u64.wrap ((IntKind.u64.wrap ((IntKind.u64.wrap (t225 + 1000000000)) - t226)) - x6_1)) 1000000000)))) ?hg ?ho ?hn ?hr ?_;(case ho=>rfl);(case hg=>rfl);(case hn=>rfl);(case hr=>exact zh);intro w26 hw;have hg : wr.grownBy w26 (some go19):=(by rw [hw];exact HP25.2);have hp_ : Kd.R (Kd.int .u64) 59 w26 w.heap.size (fun _=>True) (.slice (some ⟨go19,0,none⟩) x5_1.length co13) y227:=(by rw [hw,Ny227.out];exact HP25.1);clear HP25;replace BK219:=am (blk_grown (zk BK219.out) hg (Kd.R_ne HO_5.out BK219.out (by decide)));replace BK220:=am (blk_grown (zk BK220.out) hg (Kd.R_ne HO_5.out BK220.out (by decide)));replace BK221:=am (blk_grown (zk BK221.out) hg (Kd.R_ne HO_5.out BK221.out (by decide)));replace HO_5:=am (hp_);replace HB:=am ((by rw [hw];exact below_set (HB.out) GB19.out : Below w.heap.size w w26));clear hg hw hp_));try go_wp2_with (first |(go_at_call 79;(with_reducible refine(nat_digits_at.calls _ _ l0_0 x15_1 t225 _ ?side1 ?side2 A15.out).mono ?_);(case side1=>repeat (first | exact(Kd.C_below HR0_0.out HB.out) |(with_reducible refine Kd.C_alloc ?_ _) |(with_reducible refine Kd.C_drewN ?_ _) |(with_reducible refine Kd.C_drew ?_)));(case side2=>exact HC0_0.out);rintro e w' ⟨rfl,⟨nd,rfl⟩⟩;(try first | exact⟨rfl,_,World.drewN_drewN _ _ _⟩ | exact⟨rfl,_,Eq.trans (World.drewN_drewN _ _ _) (congrArg (World.drewN _) (Nat.add_assoc _ _ _))⟩);have hnb23:=NB220_221.out;have hnc23:=NB221_220.out;have hcz24_0 : wr.cell? ⟨gb220,0,none⟩ = some (.slice A1_0 l1_0.length c1_0):=(blk_cell BK220.out 0).trans rfl;have hfz24_0:=blk_frozen BK220.out 0) |(go_at_call 79;(with_reducible refine(nat_digits_at.calls _ _ l1_0 x15_1 t226 _ ?side1 ?side2 A16.out).mono ?_);(case side1=>repeat (first | exact(Kd.C_below HR1_0.out zb) |(with_reducible refine Kd.C_alloc ?_ _) |(with_reducible refine Kd.C_drewN ?_ _) |(with_reducible refine Kd.C_drew ?_)));(case side2=>exact HC1_0.out);rintro e w' ⟨rfl,⟨nd,rfl⟩⟩;(try first | exact⟨rfl,_,World.drewN_drewN _ _ _⟩ | exact⟨rfl,_,Eq.trans (World.drewN_drewN _ _ _) (congrArg (World.drewN _) (Nat.add_assoc _ _ _))⟩);have p19 : 0≤(x15_1 : Int):=of_decide_eq_true za;have q19 : (x15_1 : Int) < ((x5_1.length : Int) : Int):=of_decide_eq_true za;obtain⟨go19,co19,eo19,gb19,gl19,cl19,HG19⟩:=Kd.R_form HO_5.out (by omega);(first | cases eo19 |(injection eo19 with ea_ en_ ec_;(first | subst ea_ |(injection ea_ with ea_;subst ea_));subst ec_;clear en_));have GB19:=am gb19;have GG19:=am HG19;clear gb19 gl19 HG19;obtain⟨hx19_0,hf19_0⟩:=Kd.R_celln 0 HO_5.out (x15_1 : Int) p19 q19;replace p19:=eq_true p19;replace q19:=eq_true q19;obtain⟨hy25_,hz25_⟩:=Kd.R_celln 0 HO_5.out (x15_1 : Int) (of_decide_eq_true za) (of_decide_eq_true za);have HP25:=Kd.R_putg HO_5.out (x15_1 : Int) (Int.tmod (IntKind.u64.wrap ((IntKind.u64.wrap ((IntKind.u64.wrap (t225 + 1000000000)) - t226)) - x6_1)) 1000000000)) |((with_reducible refine gate_store (t:=59) (p:=37) rfl ?_);(try (rw [drewN_self wr];generalize hq_ : World.drewN wr _ = wr;have n0_:=am (Kd.R_at hq_ HO_5.out);have n1_:=am (blk_at hq_ BK219.out);have n2_:=am (blk_at hq_ BK220.out);have n3_:=am (blk_at hq_ BK221.out);have n4_:=am (below_at hq_ HB.out);clear hq_ HO_5 BK219 BK220 BK221 HB;have HO_5:=n0_;have BK219:=n1_;have BK220:=n2_;have BK221:=n3_;have HB:=n4_;clear n0_ n1_ n2_ n3_ n4_;(try (obtain⟨hy25_,hz25_⟩:=Kd.R_celln 0 HO_5.out (x15_1 : Int) (of_decide_eq_true za) (of_decide_eq_true za)));(try (have HP25:=Kd.R_putg HO_5.out (x15_1 : Int) (Int.tmod (IntKind.u64.wrap ((IntKind.u64.wrap ((IntKind.u64.wrap (t225 + 1000000000)) - t226)) - x6_1)) 1000000000)))));refine store_event (t:=59) (p:=37) (v:=?vo_w26) (w1:=(wr.setCell ⟨go19,(x15_1 : Int).toNat,none⟩ (.int .u64 (Int.tmod (IntKind.u64.wrap ((IntKind.u64.wrap ((IntKind.u64.wrap (t225 + 1000000000)) - t226)) - x6_1)) 1000000000)))) ?hg ?ho ?hn ?hr ?_;(case ho=>rfl);(case hg=>rfl);(case hn=>rfl);(case hr=>exact zh);intro w26 hw;have hg : wr.grownBy w26 (some go19):=(by rw [hw];exact HP25.2);have hp_ : Kd.R (Kd.int .u64) 59 w26 w.heap.size (fun _=>True) (.slice (some ⟨go19,0,none⟩) x5_1.length co13) y227:=(by rw [hw,Ny227.out];exact HP25.1);clear HP25;replace BK219:=am (blk_grown (zk BK219.out) hg (Kd.R_ne HO_5.out BK219.out (by decide)));replace BK220:=am (blk_grown (zk BK220.out) hg (Kd.R_ne HO_5.out BK220.out (by decide)));replace BK221:=am (blk_grown (zk BK221.out) hg (Kd.R_ne HO_5.out BK221.out (by decide)));replace HO_5:=am (hp_);replace HB:=am ((by rw [hw];exact below_set (HB.out) GB19.out : Below w.heap.size w w26));clear hg hw hp_)))
        (try simp only [← hl5_1])
        go_roundg k1
        case measure=>have:=HK1.out;omega
        case rel=>exact⟨(y227),(IntKind.u64.wrap (1 - (IntKind.u64.wrap (Int.tdiv (IntKind.u64.wrap ((IntKind.u64.wrap ((IntKind.u64.wrap (t225 + 1000000000)) - t226)) - x6_1)) 1000000000)))),(wrap64 (x15_1 + 1)),ze,ze,H',⟨by have:=HK1.out;omega⟩,⟨by(try simp only [hl5_1]);refine zR ?_;exact HO_5.out⟩,⟨by(try simp only [hl5_1]);refine zk ?_;exact BK219.out⟩,⟨by(try simp only [hl5_1]);refine zk ?_;exact BK220.out⟩,⟨by(try simp only [hl5_1]);refine zk ?_;exact BK221.out⟩,⟨zb⟩⟩
       ·rw [if_neg c18] at H
        exact absurd H (by simp)
      ·rw [if_neg c17] at H
       exact absurd H (by simp)
     ·rw [if_neg c14] at H
      have c14b0 : decide (x15_1 < (y222.length : Int)) = false:=decide_eq_false c14
      (try simp only [hl5_1] at c14b0)
      clear c14
      replace H:=Option.bind_eq_some_iff.mp H
      obtain⟨t228,A270,H⟩:=H
      try dsimp only at H
      have A27:=am A270
      clear A270
      obtain rfl:=Option.some.inj H
      go_wp2_with (first |(go_at_call 57;(with_reducible refine(nat_carried.calls k1 _ _ x5_1 t228 _ ?side1 ?side2 A27.out).mono ?_);(case side1=>exact zC (Kd.R_reads' HO_5.out).2.2);(case side2=>exact(Kd.R_reads' HO_5.out).2.1);rintro e w28 ⟨v229,rfl,ho0,hb⟩;have HO230:=am (Kd.R_lower (Kd.R_new' ho0 (Kd.R_lt (zR HO_5.out))) (below_size zb));replace HO_5:=re HO_5 (Kd.R_base ho0) hb;replace BK219:=kb BK219 hb;replace BK220:=kb BK220 hb;replace BK221:=kb BK221 hb;replace HB:=am (below_step zb hb);(try clear hb);(try clear ho0);obtain⟨Ao29,co29,eo29⟩:=Kd.R_slice HO230.out;subst eo29;have hnb30:=NB221_219.out;have hnc30:=NB219_221.out;have hnb31:=NB221_220.out;have hnc31:=NB220_221.out;have hcz32_0 : w28.cell? ⟨gb221,0,none⟩ = some (.slice none 0 0):=(blk_cell BK221.out 0).trans rfl;have hfz32_0:=blk_frozen BK221.out 0))
      repeat (go_quiet (first |(go_at_call 57;(with_reducible refine(nat_carried.calls k1 _ _ x5_1 t228 _ ?side1 ?side2 A27.out).mono ?_);(case side1=>exact zC (Kd.R_reads' HO_5.out).2.2);(case side2=>exact(Kd.R_reads' HO_5.out).2.1);rintro e w28 ⟨v229,rfl,ho0,hb⟩;have HO230:=am (Kd.R_lower (Kd.R_new' ho0 (Kd.R_lt (zR HO_5.out))) (below_size zb));replace HO_5:=re HO_5 (Kd.R_base ho0) hb;replace BK219:=kb BK219 hb;replace BK220:=kb BK220 hb;replace BK221:=kb BK221 hb;replace HB:=am (below_step zb hb);(try clear hb);(try clear ho0);obtain⟨Ao29,co29,eo29⟩:=Kd.R_slice HO230.out;subst eo29;have hnb30:=NB221_219.out;have hnc30:=NB219_221.out;have hnb31:=NB221_220.out;have hnc31:=NB220_221.out;have hcz32_0 : w28.cell? ⟨gb221,0,none⟩ = some (.slice none 0 0):=(blk_cell BK221.out 0).trans rfl;have hfz32_0:=blk_frozen BK221.out 0));try go_wp2_with (first |(go_at_call 57;(with_reducible refine(nat_carried.calls k1 _ _ x5_1 t228 _ ?side1 ?side2 A27.out).mono ?_);(case side1=>exact zC (Kd.R_reads' HO_5.out).2.2);(case side2=>exact(Kd.R_reads' HO_5.out).2.1);rintro e w28 ⟨v229,rfl,ho0,hb⟩;have HO230:=am (Kd.R_lower (Kd.R_new' ho0 (Kd.R_lt (zR HO_5.out))) (below_size zb));replace HO_5:=re HO_5 (Kd.R_base ho0) hb;replace BK219:=kb BK219 hb;replace BK220:=kb BK220 hb;replace BK221:=kb BK221 hb;replace HB:=am (below_step zb hb);(try clear hb);(try clear ho0);obtain⟨Ao29,co29,eo29⟩:=Kd.R_slice HO230.out;subst eo29;have hnb30:=NB221_219.out;have hnc30:=NB219_221.out;have hnb31:=NB221_220.out;have hnc31:=NB220_221.out;have hcz32_0 : w28.cell? ⟨gb221,0,none⟩ = some (.slice none 0 0):=(blk_cell BK221.out 0).trans rfl;have hfz32_0:=blk_frozen BK221.out 0)))
      refine bodyPost_ret (results_cell_row rfl _ _ gb221 83 #[.slice Ao29 t228.length co29] (0,0) _ rfl (by refine zk ?_;refine blk_put (cs:=#[.slice none 0 0]) ?_ 0 _ rfl;refine zk ?_;exact BK221.out) Tryz.underlying83 rfl (by kernel_rfl)) rfl ?_
      exact⟨_,zf,by refine zR ?_;exact Kd.R_mono (Kd.R_far (p:=⟨gb221,0,none⟩) (Kd.R_types HO230.out BK221.out (by decide)) (fun _ hk=>hk.2) (.slice Ao29 t228.length co29)) (fun _ hk=>trivial),zb⟩
  ·rw [if_neg c4] at H
   exact absurd H (by simp)
 ·rw [if_neg c3] at H
  exact absurd H (by simp)

/-! ### cmp_isNaN_int: function 121 -/
def cmp_isNaN_int.f (a0 : Int) : Option (Bool):=some (a0 != a0)
theorem cmp_isNaN_int.calls (a0 : Int) (r : Bool) (w : World) (h : cmp_isNaN_int.f a0 = some r) :
  Calls Tryz.prog 121 #[.int .i64 a0] w fun e w'=>e = .returned (.bool r)∧Drawn0 w w':=by
 have H : (some (a0 != a0)) = some r:=h
 clear h
 obtain rfl:=Option.some.inj H
 go_enter Tryz.func121,Tryz.ntmps121
 go_wp2
 go_ret
 exact⟨ze,by repeat (first | exact Drawn0.refl _ | apply Drawn0.step)⟩

/-! ### cmp_Compare_int: function 108 -/
def cmp_Compare_int.f (a0 : Int) (a1 : Int) : Option (Int):=(cmp_isNaN_int.f a0).bind fun t231=>((cmp_isNaN_int.f a1).bind fun t232=>(if t231 = true then(if t232 = true then(some 0) else(some (-1))) else(if t232 = true then(some 1) else(if a0 < a1 then(some (-1)) else(if a0 > a1 then(some 1) else(some 0))))))
theorem cmp_Compare_int.calls (a0 : Int) (a1 : Int) (r : Int) (w : World) (h : cmp_Compare_int.f a0 a1 = some r) :
  Calls Tryz.prog 108 #[.int .i64 a0,.int .i64 a1] w fun e w'=>e = .returned (.int .i64 r)∧Drawn0 w w':=by
 have H : ((cmp_isNaN_int.f a0).bind fun t231=>((cmp_isNaN_int.f a1).bind fun t232=>(if t231 = true then(if t232 = true then(some 0) else(some (-1))) else(if t232 = true then(some 1) else(if a0 < a1 then(some (-1)) else(if a0 > a1 then(some 1) else(some 0))))))) = some r:=h
 clear h
 replace H:=Option.bind_eq_some_iff.mp H
 obtain⟨t231,A30,H⟩:=H
 try dsimp only at H
 have A3:=am A30
 clear A30
 replace H:=Option.bind_eq_some_iff.mp H
 obtain⟨t232,A40,H⟩:=H
 try dsimp only at H
 have A4:=am A40
 clear A40
 by_cases c5 : t231 = true
 ·subst c5
  have H1 : (if t232 = true then(some 0) else(some (-1))) = some r:=by rw [if_pos rfl] at H;exact H
  clear H
  have H:=H1
  clear H1
  by_cases c6 : t232 = true
  ·subst c6
   have H1 : (some 0) = some r:=by rw [if_pos rfl] at H;exact H
   clear H
   have H:=H1
   clear H1
   obtain rfl:=Option.some.inj H
   go_enter Tryz.func108,Tryz.ntmps108
   go_wp2_with (first |((with_reducible refine gate_callee (f:=121) rfl ?_);refine goesL_ (some 8) rfl rfl Tryz.func121 (by kernel_rfl) rfl #[.int .i64 a0] rfl zl ?_;(with_reducible refine(cmp_isNaN_int.calls a0 true _ A3.out).mono ?_);rintro e w' ⟨rfl,⟨nd,rfl⟩⟩;refine⟨_,rfl,?_⟩) |((with_reducible refine gate_callee (f:=121) rfl ?_);refine goesL_ (some 10) rfl rfl Tryz.func121 (by kernel_rfl) rfl #[.int .i64 a1] rfl zl ?_;(with_reducible refine(cmp_isNaN_int.calls a1 true _ A4.out).mono ?_);rintro e w' ⟨rfl,⟨nd,rfl⟩⟩;refine⟨_,rfl,?_⟩))
   go_ret
   exact⟨ze,by repeat (first | exact Drawn0.refl _ | apply Drawn0.step)⟩
  ·replace c6:=Bool.eq_false_iff.mpr c6
   subst c6
   have H1 : (some (-1)) = some r:=by rw [if_neg (show ¬ (false = true) by decide)] at H;exact H
   clear H
   have H:=H1
   clear H1
   obtain rfl:=Option.some.inj H
   go_enter Tryz.func108,Tryz.ntmps108
   go_wp2_with (first |((with_reducible refine gate_callee (f:=121) rfl ?_);refine goesL_ (some 8) rfl rfl Tryz.func121 (by kernel_rfl) rfl #[.int .i64 a0] rfl zl ?_;(with_reducible refine(cmp_isNaN_int.calls a0 true _ A3.out).mono ?_);rintro e w' ⟨rfl,⟨nd,rfl⟩⟩;refine⟨_,rfl,?_⟩) |((with_reducible refine gate_callee (f:=121) rfl ?_);refine goesL_ (some 10) rfl rfl Tryz.func121 (by kernel_rfl) rfl #[.int .i64 a1] rfl zl ?_;(with_reducible refine(cmp_isNaN_int.calls a1 false _ A4.out).mono ?_);rintro e w' ⟨rfl,⟨nd,rfl⟩⟩;refine⟨_,rfl,?_⟩))
   go_ret
   exact⟨ze,by repeat (first | exact Drawn0.refl _ | apply Drawn0.step)⟩
 ·replace c5:=Bool.eq_false_iff.mpr c5
  subst c5
  have H1 : (if t232 = true then(some 1) else(if a0 < a1 then(some (-1)) else(if a0 > a1 then(some 1) else(some 0)))) = some r:=by rw [if_neg (show ¬ (false = true) by decide)] at H;exact H
  clear H
  have H:=H1
  clear H1
  by_cases c7 : t232 = true
  ·subst c7
   have H1 : (some 1) = some r:=by rw [if_pos rfl] at H;exact H
   clear H
   have H:=H1
   clear H1
   obtain rfl:=Option.some.inj H
   go_enter Tryz.func108,Tryz.ntmps108
   go_wp2_with (first |((with_reducible refine gate_callee (f:=121) rfl ?_);refine goesL_ (some 8) rfl rfl Tryz.func121 (by kernel_rfl) rfl #[.int .i64 a0] rfl zl ?_;(with_reducible refine(cmp_isNaN_int.calls a0 false _ A3.out).mono ?_);rintro e w' ⟨rfl,⟨nd,rfl⟩⟩;refine⟨_,rfl,?_⟩) |((with_reducible refine gate_callee (f:=121) rfl ?_);refine goesL_ (some 10) rfl rfl Tryz.func121 (by kernel_rfl) rfl #[.int .i64 a1] rfl zl ?_;(with_reducible refine(cmp_isNaN_int.calls a1 true _ A4.out).mono ?_);rintro e w' ⟨rfl,⟨nd,rfl⟩⟩;refine⟨_,rfl,?_⟩))
   go_ret
   exact⟨ze,by repeat (first | exact Drawn0.refl _ | apply Drawn0.step)⟩
  ·replace c7:=Bool.eq_false_iff.mpr c7
   subst c7
   have H1 : (if a0 < a1 then(some (-1)) else(if a0 > a1 then(some 1) else(some 0))) = some r:=by rw [if_neg (show ¬ (false = true) by decide)] at H;exact H
   clear H
   have H:=H1
   clear H1
   by_cases c8 : a0 < a1
   ·rw [if_pos c8] at H
    have c8b0 : decide (a0 < a1) = true:=decide_eq_true c8
    clear c8
    obtain rfl:=Option.some.inj H
    go_enter Tryz.func108,Tryz.ntmps108
    go_wp2_with (first |((with_reducible refine gate_callee (f:=121) rfl ?_);refine goesL_ (some 8) rfl rfl Tryz.func121 (by kernel_rfl) rfl #[.int .i64 a0] rfl zl ?_;(with_reducible refine(cmp_isNaN_int.calls a0 false _ A3.out).mono ?_);rintro e w' ⟨rfl,⟨nd,rfl⟩⟩;refine⟨_,rfl,?_⟩) |((with_reducible refine gate_callee (f:=121) rfl ?_);refine goesL_ (some 10) rfl rfl Tryz.func121 (by kernel_rfl) rfl #[.int .i64 a1] rfl zl ?_;(with_reducible refine(cmp_isNaN_int.calls a1 false _ A4.out).mono ?_);rintro e w' ⟨rfl,⟨nd,rfl⟩⟩;refine⟨_,rfl,?_⟩))
    go_ret
    exact⟨ze,by repeat (first | exact Drawn0.refl _ | apply Drawn0.step)⟩
   ·rw [if_neg c8] at H
    have c8b0 : decide (a0 < a1) = false:=decide_eq_false c8
    clear c8
    by_cases c9 : a0 > a1
    ·rw [if_pos c9] at H
     have c9b0 : decide (a1 < a0) = true:=decide_eq_true c9
     clear c9
     obtain rfl:=Option.some.inj H
     go_enter Tryz.func108,Tryz.ntmps108
     go_wp2_with (first |((with_reducible refine gate_callee (f:=121) rfl ?_);refine goesL_ (some 8) rfl rfl Tryz.func121 (by kernel_rfl) rfl #[.int .i64 a0] rfl zl ?_;(with_reducible refine(cmp_isNaN_int.calls a0 false _ A3.out).mono ?_);rintro e w' ⟨rfl,⟨nd,rfl⟩⟩;refine⟨_,rfl,?_⟩) |((with_reducible refine gate_callee (f:=121) rfl ?_);refine goesL_ (some 10) rfl rfl Tryz.func121 (by kernel_rfl) rfl #[.int .i64 a1] rfl zl ?_;(with_reducible refine(cmp_isNaN_int.calls a1 false _ A4.out).mono ?_);rintro e w' ⟨rfl,⟨nd,rfl⟩⟩;refine⟨_,rfl,?_⟩))
     go_ret
     exact⟨ze,by repeat (first | exact Drawn0.refl _ | apply Drawn0.step)⟩
    ·rw [if_neg c9] at H
     have c9b0 : decide (a1 < a0) = false:=decide_eq_false c9
     clear c9
     obtain rfl:=Option.some.inj H
     go_enter Tryz.func108,Tryz.ntmps108
     go_wp2_with (first |((with_reducible refine gate_callee (f:=121) rfl ?_);refine goesL_ (some 8) rfl rfl Tryz.func121 (by kernel_rfl) rfl #[.int .i64 a0] rfl zl ?_;(with_reducible refine(cmp_isNaN_int.calls a0 false _ A3.out).mono ?_);rintro e w' ⟨rfl,⟨nd,rfl⟩⟩;refine⟨_,rfl,?_⟩) |((with_reducible refine gate_callee (f:=121) rfl ?_);refine goesL_ (some 10) rfl rfl Tryz.func121 (by kernel_rfl) rfl #[.int .i64 a1] rfl zl ?_;(with_reducible refine(cmp_isNaN_int.calls a1 false _ A4.out).mono ?_);rintro e w' ⟨rfl,⟨nd,rfl⟩⟩;refine⟨_,rfl,?_⟩))
     go_ret
     exact⟨ze,by repeat (first | exact Drawn0.refl _ | apply Drawn0.step)⟩

/-! ### cmp_isNaN_uint64: function 122 -/
def cmp_isNaN_uint64.f (a0 : Int) : Option (Bool):=some (a0 != a0)
theorem cmp_isNaN_uint64.calls (a0 : Int) (r : Bool) (w : World) (h : cmp_isNaN_uint64.f a0 = some r) :
  Calls Tryz.prog 122 #[.int .u64 a0] w fun e w'=>e = .returned (.bool r)∧Drawn0 w w':=by
 have H : (some (a0 != a0)) = some r:=h
 clear h
 obtain rfl:=Option.some.inj H
 go_enter Tryz.func122,Tryz.ntmps122
 go_wp2
 go_ret
 exact⟨ze,by repeat (first | exact Drawn0.refl _ | apply Drawn0.step)⟩

/-! ### cmp_Compare_uint64: function 109 -/
def cmp_Compare_uint64.f (a0 : Int) (a1 : Int) : Option (Int):=(cmp_isNaN_uint64.f a0).bind fun t233=>((cmp_isNaN_uint64.f a1).bind fun t234=>(if t233 = true then(if t234 = true then(some 0) else(some (-1))) else(if t234 = true then(some 1) else(if a0 < a1 then(some (-1)) else(if a0 > a1 then(some 1) else(some 0))))))
theorem cmp_Compare_uint64.calls (a0 : Int) (a1 : Int) (r : Int) (w : World) (h : cmp_Compare_uint64.f a0 a1 = some r) :
  Calls Tryz.prog 109 #[.int .u64 a0,.int .u64 a1] w fun e w'=>e = .returned (.int .i64 r)∧Drawn0 w w':=by
 have H : ((cmp_isNaN_uint64.f a0).bind fun t233=>((cmp_isNaN_uint64.f a1).bind fun t234=>(if t233 = true then(if t234 = true then(some 0) else(some (-1))) else(if t234 = true then(some 1) else(if a0 < a1 then(some (-1)) else(if a0 > a1 then(some 1) else(some 0))))))) = some r:=h
 clear h
 replace H:=Option.bind_eq_some_iff.mp H
 obtain⟨t233,A30,H⟩:=H
 try dsimp only at H
 have A3:=am A30
 clear A30
 replace H:=Option.bind_eq_some_iff.mp H
 obtain⟨t234,A40,H⟩:=H
 try dsimp only at H
 have A4:=am A40
 clear A40
 by_cases c5 : t233 = true
 ·subst c5
  have H1 : (if t234 = true then(some 0) else(some (-1))) = some r:=by rw [if_pos rfl] at H;exact H
  clear H
  have H:=H1
  clear H1
  by_cases c6 : t234 = true
  ·subst c6
   have H1 : (some 0) = some r:=by rw [if_pos rfl] at H;exact H
   clear H
   have H:=H1
   clear H1
   obtain rfl:=Option.some.inj H
   go_enter Tryz.func109,Tryz.ntmps109
   go_wp2_with (first |((with_reducible refine gate_callee (f:=122) rfl ?_);refine goesL_ (some 8) rfl rfl Tryz.func122 (by kernel_rfl) rfl #[.int .u64 a0] rfl zl ?_;(with_reducible refine(cmp_isNaN_uint64.calls a0 true _ A3.out).mono ?_);rintro e w' ⟨rfl,⟨nd,rfl⟩⟩;refine⟨_,rfl,?_⟩) |((with_reducible refine gate_callee (f:=122) rfl ?_);refine goesL_ (some 10) rfl rfl Tryz.func122 (by kernel_rfl) rfl #[.int .u64 a1] rfl zl ?_;(with_reducible refine(cmp_isNaN_uint64.calls a1 true _ A4.out).mono ?_);rintro e w' ⟨rfl,⟨nd,rfl⟩⟩;refine⟨_,rfl,?_⟩))
   go_ret
   exact⟨ze,by repeat (first | exact Drawn0.refl _ | apply Drawn0.step)⟩
  ·replace c6:=Bool.eq_false_iff.mpr c6
   subst c6
   have H1 : (some (-1)) = some r:=by rw [if_neg (show ¬ (false = true) by decide)] at H;exact H
   clear H
   have H:=H1
   clear H1
   obtain rfl:=Option.some.inj H
   go_enter Tryz.func109,Tryz.ntmps109
   go_wp2_with (first |((with_reducible refine gate_callee (f:=122) rfl ?_);refine goesL_ (some 8) rfl rfl Tryz.func122 (by kernel_rfl) rfl #[.int .u64 a0] rfl zl ?_;(with_reducible refine(cmp_isNaN_uint64.calls a0 true _ A3.out).mono ?_);rintro e w' ⟨rfl,⟨nd,rfl⟩⟩;refine⟨_,rfl,?_⟩) |((with_reducible refine gate_callee (f:=122) rfl ?_);refine goesL_ (some 10) rfl rfl Tryz.func122 (by kernel_rfl) rfl #[.int .u64 a1] rfl zl ?_;(with_reducible refine(cmp_isNaN_uint64.calls a1 false _ A4.out).mono ?_);rintro e w' ⟨rfl,⟨nd,rfl⟩⟩;refine⟨_,rfl,?_⟩))
   go_ret
   exact⟨ze,by repeat (first | exact Drawn0.refl _ | apply Drawn0.step)⟩
 ·replace c5:=Bool.eq_false_iff.mpr c5
  subst c5
  have H1 : (if t234 = true then(some 1) else(if a0 < a1 then(some (-1)) else(if a0 > a1 then(some 1) else(some 0)))) = some r:=by rw [if_neg (show ¬ (false = true) by decide)] at H;exact H
  clear H
  have H:=H1
  clear H1
  by_cases c7 : t234 = true
  ·subst c7
   have H1 : (some 1) = some r:=by rw [if_pos rfl] at H;exact H
   clear H
   have H:=H1
   clear H1
   obtain rfl:=Option.some.inj H
   go_enter Tryz.func109,Tryz.ntmps109
   go_wp2_with (first |((with_reducible refine gate_callee (f:=122) rfl ?_);refine goesL_ (some 8) rfl rfl Tryz.func122 (by kernel_rfl) rfl #[.int .u64 a0] rfl zl ?_;(with_reducible refine(cmp_isNaN_uint64.calls a0 false _ A3.out).mono ?_);rintro e w' ⟨rfl,⟨nd,rfl⟩⟩;refine⟨_,rfl,?_⟩) |((with_reducible refine gate_callee (f:=122) rfl ?_);refine goesL_ (some 10) rfl rfl Tryz.func122 (by kernel_rfl) rfl #[.int .u64 a1] rfl zl ?_;(with_reducible refine(cmp_isNaN_uint64.calls a1 true _ A4.out).mono ?_);rintro e w' ⟨rfl,⟨nd,rfl⟩⟩;refine⟨_,rfl,?_⟩))
   go_ret
   exact⟨ze,by repeat (first | exact Drawn0.refl _ | apply Drawn0.step)⟩
  ·replace c7:=Bool.eq_false_iff.mpr c7
   subst c7
   have H1 : (if a0 < a1 then(some (-1)) else(if a0 > a1 then(some 1) else(some 0))) = some r:=by rw [if_neg (show ¬ (false = true) by decide)] at H;exact H
   clear H
   have H:=H1
   clear H1
   by_cases c8 : a0 < a1
   ·rw [if_pos c8] at H
    have c8b0 : decide (a0 < a1) = true:=decide_eq_true c8
    clear c8
    obtain rfl:=Option.some.inj H
    go_enter Tryz.func109,Tryz.ntmps109
    go_wp2_with (first |((with_reducible refine gate_callee (f:=122) rfl ?_);refine goesL_ (some 8) rfl rfl Tryz.func122 (by kernel_rfl) rfl #[.int .u64 a0] rfl zl ?_;(with_reducible refine(cmp_isNaN_uint64.calls a0 false _ A3.out).mono ?_);rintro e w' ⟨rfl,⟨nd,rfl⟩⟩;refine⟨_,rfl,?_⟩) |((with_reducible refine gate_callee (f:=122) rfl ?_);refine goesL_ (some 10) rfl rfl Tryz.func122 (by kernel_rfl) rfl #[.int .u64 a1] rfl zl ?_;(with_reducible refine(cmp_isNaN_uint64.calls a1 false _ A4.out).mono ?_);rintro e w' ⟨rfl,⟨nd,rfl⟩⟩;refine⟨_,rfl,?_⟩))
    go_ret
    exact⟨ze,by repeat (first | exact Drawn0.refl _ | apply Drawn0.step)⟩
   ·rw [if_neg c8] at H
    have c8b0 : decide (a0 < a1) = false:=decide_eq_false c8
    clear c8
    by_cases c9 : a0 > a1
    ·rw [if_pos c9] at H
     have c9b0 : decide (a1 < a0) = true:=decide_eq_true c9
     clear c9
     obtain rfl:=Option.some.inj H
     go_enter Tryz.func109,Tryz.ntmps109
     go_wp2_with (first |((with_reducible refine gate_callee (f:=122) rfl ?_);refine goesL_ (some 8) rfl rfl Tryz.func122 (by kernel_rfl) rfl #[.int .u64 a0] rfl zl ?_;(with_reducible refine(cmp_isNaN_uint64.calls a0 false _ A3.out).mono ?_);rintro e w' ⟨rfl,⟨nd,rfl⟩⟩;refine⟨_,rfl,?_⟩) |((with_reducible refine gate_callee (f:=122) rfl ?_);refine goesL_ (some 10) rfl rfl Tryz.func122 (by kernel_rfl) rfl #[.int .u64 a1] rfl zl ?_;(with_reducible refine(cmp_isNaN_uint64.calls a1 false _ A4.out).mono ?_);rintro e w' ⟨rfl,⟨nd,rfl⟩⟩;refine⟨_,rfl,?_⟩))
     go_ret
     exact⟨ze,by repeat (first | exact Drawn0.refl _ | apply Drawn0.step)⟩
    ·rw [if_neg c9] at H
     have c9b0 : decide (a1 < a0) = false:=decide_eq_false c9
     clear c9
     obtain rfl:=Option.some.inj H
     go_enter Tryz.func109,Tryz.ntmps109
     go_wp2_with (first |((with_reducible refine gate_callee (f:=122) rfl ?_);refine goesL_ (some 8) rfl rfl Tryz.func122 (by kernel_rfl) rfl #[.int .u64 a0] rfl zl ?_;(with_reducible refine(cmp_isNaN_uint64.calls a0 false _ A3.out).mono ?_);rintro e w' ⟨rfl,⟨nd,rfl⟩⟩;refine⟨_,rfl,?_⟩) |((with_reducible refine gate_callee (f:=122) rfl ?_);refine goesL_ (some 10) rfl rfl Tryz.func122 (by kernel_rfl) rfl #[.int .u64 a1] rfl zl ?_;(with_reducible refine(cmp_isNaN_uint64.calls a1 false _ A4.out).mono ?_);rintro e w' ⟨rfl,⟨nd,rfl⟩⟩;refine⟨_,rfl,?_⟩))
     go_ret
     exact⟨ze,by repeat (first | exact Drawn0.refl _ | apply Drawn0.step)⟩

/-! ### nat_number_compare: function 88 -/
mutual
def nat_number_compare.l0 : Nat→Int→Int→List Int→List Int→Option (Int)
 | 0,_,_,_,_=>none
 | k + 1,x5,x6,x236000,x237000=>if x6≥0 then(nat_number_compare.j1 k x5 x6 (x5 == 0) x236000 x237000) else(nat_number_compare.j1 k x5 x6 false x236000 x237000)
def nat_number_compare.j1 : Nat→Int→Int→Bool→List Int→List Int→Option (Int)
 | 0,_,_,_,_,_=>none
 | k + 1,x5,x6,x23,x236000,x237000=>if x23 = true then((nat_digits_at.f x236000 x6).bind fun t238=>((nat_digits_at.f x237000 x6).bind fun t239=>((cmp_Compare_uint64.f t238 t239).bind fun t240=>(nat_number_compare.l0 k t240 (wrap64 (x6 - 1)) x236000 x237000)))) else(some x5)
end
def nat_number_compare.f (k : Nat) (l0_0 : List Int) (l1_0 : List Int) : Option (Int):=(cmp_Compare_int.f (l0_0.length : Int) (l1_0.length : Int)).bind fun t237=>(nat_number_compare.l0 k t237 (wrap64 ((l0_0.length : Int) - 1)) l0_0 l1_0)
theorem nat_number_compare.calls (k : Nat) (A0_0 : Option Addr) (c0_0 : Nat) (l0_0 : List Int) (A1_0 : Option Addr) (c1_0 : Nat) (l1_0 : List Int) (r : Int) (w : World) (hr0_0 : Kd.C (Kd.int .u64) w A0_0 l0_0.length l0_0) (hc0_0 : l0_0.length≤c0_0) (hr1_0 : Kd.C (Kd.int .u64) w A1_0 l1_0.length l1_0) (hc1_0 : l1_0.length≤c1_0) (h : nat_number_compare.f k l0_0 l1_0 = some r) :
  Calls Tryz.prog 88 #[.agg #[.slice A0_0 l0_0.length c0_0],.agg #[.slice A1_0 l1_0.length c1_0]] w fun e w'=>e = .returned (.int .i64 r)∧Below w.heap.size w w':=by
 have hu83:=Tryz.underlying83
 have HR0_0:=am hr0_0
 have HC0_0:=am hc0_0
 clear hr0_0 hc0_0
 have HR1_0:=am hr1_0
 have HC1_0:=am hc1_0
 clear hr1_0 hc1_0
 have HB:=am (Below.refl w.heap.size w)
 have H : ((cmp_Compare_int.f (l0_0.length : Int) (l1_0.length : Int)).bind fun t237=>(nat_number_compare.l0 k t237 (wrap64 ((l0_0.length : Int) - 1)) l0_0 l1_0)) = some r:=h
 clear h
 replace H:=Option.bind_eq_some_iff.mp H
 obtain⟨t237,A30,H⟩:=H
 try dsimp only at H
 have A3:=am A30
 clear A30
 have H':=am H
 clear H
 go_enter Tryz.func88,Tryz.ntmps88
 go_wp2_with (first |((with_reducible refine gate_dst (N:=2) rfl ?_);refine box_event ?hg (N:=2) ?hd (cs:=#[.slice A0_0 l0_0.length c0_0]) (t:=83) ?hr ?_;(case hd=>rfl);(case hg=>rfl);(case hr=>exact zh);intro gb235 hg w4 hbox hb;have BK235:=am (hbox);have GW235:=gw w hg;have GE235:=gw w hg;replace HB:=am (below_step zb hb);clear hb hbox hg) |((with_reducible refine gate_dst (N:=3) rfl ?_);refine box_event ?hg (N:=3) ?hd (cs:=#[.slice A1_0 l1_0.length c1_0]) (t:=83) ?hr ?_;(case hd=>rfl);(case hg=>rfl);(case hr=>exact zh);intro gb236 hg w5 hbox hb;have BK236:=am (hbox);have GW236:=gw w hg;have GE236:=gw w hg;replace HB:=am (below_step zb hb);have NB235_236:=nl BK235 hg;have NB236_235:=nr BK235 hg;replace BK235:=kb BK235 hb;clear hb hbox hg;have hnb6:=NB235_236.out;have hnc6:=NB236_235.out;have hcz7_0 : w5.cell? ⟨gb235,0,none⟩ = some (.slice A0_0 l0_0.length c0_0):=(blk_cell BK235.out 0).trans rfl;have hfz7_0:=blk_frozen BK235.out 0;have hcz8_0 : w5.cell? ⟨gb236,0,none⟩ = some (.slice A1_0 l1_0.length c1_0):=(blk_cell BK236.out 0).trans rfl;have hfz8_0:=blk_frozen BK236.out 0) |(go_at_call 108;(with_reducible refine(cmp_Compare_int.calls (l0_0.length : Int) (l1_0.length : Int) t237 _ A3.out).mono ?_);rintro e w' ⟨rfl,⟨nd,rfl⟩⟩;(try first | exact⟨rfl,_,World.drewN_drewN _ _ _⟩ | exact⟨rfl,_,Eq.trans (World.drewN_drewN _ _ _) (congrArg (World.drewN _) (Nat.add_assoc _ _ _))⟩)))
 repeat (go_quiet (first |((with_reducible refine gate_dst (N:=2) rfl ?_);refine box_event ?hg (N:=2) ?hd (cs:=#[.slice A0_0 l0_0.length c0_0]) (t:=83) ?hr ?_;(case hd=>rfl);(case hg=>rfl);(case hr=>exact zh);intro gb235 hg w4 hbox hb;have BK235:=am (hbox);have GW235:=gw w hg;have GE235:=gw w hg;replace HB:=am (below_step zb hb);clear hb hbox hg) |((with_reducible refine gate_dst (N:=3) rfl ?_);refine box_event ?hg (N:=3) ?hd (cs:=#[.slice A1_0 l1_0.length c1_0]) (t:=83) ?hr ?_;(case hd=>rfl);(case hg=>rfl);(case hr=>exact zh);intro gb236 hg w5 hbox hb;have BK236:=am (hbox);have GW236:=gw w hg;have GE236:=gw w hg;replace HB:=am (below_step zb hb);have NB235_236:=nl BK235 hg;have NB236_235:=nr BK235 hg;replace BK235:=kb BK235 hb;clear hb hbox hg;have hnb6:=NB235_236.out;have hnc6:=NB236_235.out;have hcz7_0 : w5.cell? ⟨gb235,0,none⟩ = some (.slice A0_0 l0_0.length c0_0):=(blk_cell BK235.out 0).trans rfl;have hfz7_0:=blk_frozen BK235.out 0;have hcz8_0 : w5.cell? ⟨gb236,0,none⟩ = some (.slice A1_0 l1_0.length c1_0):=(blk_cell BK236.out 0).trans rfl;have hfz8_0:=blk_frozen BK236.out 0) |(go_at_call 108;(with_reducible refine(cmp_Compare_int.calls (l0_0.length : Int) (l1_0.length : Int) t237 _ A3.out).mono ?_);rintro e w' ⟨rfl,⟨nd,rfl⟩⟩;(try first | exact⟨rfl,_,World.drewN_drewN _ _ _⟩ | exact⟨rfl,_,Eq.trans (World.drewN_drewN _ _ _) (congrArg (World.drewN _) (Nat.add_assoc _ _ _))⟩)));try go_wp2_with (first |((with_reducible refine gate_dst (N:=2) rfl ?_);refine box_event ?hg (N:=2) ?hd (cs:=#[.slice A0_0 l0_0.length c0_0]) (t:=83) ?hr ?_;(case hd=>rfl);(case hg=>rfl);(case hr=>exact zh);intro gb235 hg w4 hbox hb;have BK235:=am (hbox);have GW235:=gw w hg;have GE235:=gw w hg;replace HB:=am (below_step zb hb);clear hb hbox hg) |((with_reducible refine gate_dst (N:=3) rfl ?_);refine box_event ?hg (N:=3) ?hd (cs:=#[.slice A1_0 l1_0.length c1_0]) (t:=83) ?hr ?_;(case hd=>rfl);(case hg=>rfl);(case hr=>exact zh);intro gb236 hg w5 hbox hb;have BK236:=am (hbox);have GW236:=gw w hg;have GE236:=gw w hg;replace HB:=am (below_step zb hb);have NB235_236:=nl BK235 hg;have NB236_235:=nr BK235 hg;replace BK235:=kb BK235 hb;clear hb hbox hg;have hnb6:=NB235_236.out;have hnc6:=NB236_235.out;have hcz7_0 : w5.cell? ⟨gb235,0,none⟩ = some (.slice A0_0 l0_0.length c0_0):=(blk_cell BK235.out 0).trans rfl;have hfz7_0:=blk_frozen BK235.out 0;have hcz8_0 : w5.cell? ⟨gb236,0,none⟩ = some (.slice A1_0 l1_0.length c1_0):=(blk_cell BK236.out 0).trans rfl;have hfz8_0:=blk_frozen BK236.out 0) |(go_at_call 108;(with_reducible refine(cmp_Compare_int.calls (l0_0.length : Int) (l1_0.length : Int) t237 _ A3.out).mono ?_);rintro e w' ⟨rfl,⟨nd,rfl⟩⟩;(try first | exact⟨rfl,_,World.drewN_drewN _ _ _⟩ | exact⟨rfl,_,Eq.trans (World.drewN_drewN _ _ _) (congrArg (World.drewN _) (Nat.add_assoc _ _ _))⟩))))
 go_loopg [5,6] k (fun kq v5 v6 w'=>∃ (x5_1 : Int) (x6_1 : Int),v5 = .int .i64 x5_1∧v6 = .int .i64 x6_1∧Aside0 (nat_number_compare.l0 kq x5_1 x6_1 l0_0 l1_0 = some r)∧Aside0 (kq≤k)∧Aside0 (w'.heap[gb235]? = some (.cells #[(.slice A0_0 l0_0.length c0_0)] 83 (0,0)))∧Aside0 (w'.heap[gb236]? = some (.cells #[(.slice A1_0 l1_0.length c1_0)] 83 (0,0)))∧Aside0 (Below w.heap.size w w'))
 case atStart=>exact⟨(t237),(wrap64 ((l0_0.length : Int) - 1)),ze,ze,H',⟨Nat.le_refl _⟩,⟨zk BK235.out⟩,⟨zk BK236.out⟩,⟨zb⟩⟩
 case round=>
  clear H'
  try clear c1
  try clear p2
  try clear c6
  try clear p6
  try clear c8
  try clear hcz7_0
  try clear hcz8_0
  try clear hfz7_0
  try clear hfz8_0
  obtain⟨x5_1,x6_1,rfl,rfl,HA,HK1,BK235,BK236,HB⟩:=hrel
  cases gk with
  | zero=>exact absurd HA.out (by simp [nat_number_compare.l0])
  | succ k1=>
   have H:=HA.out
   clear HA
   simp only [nat_number_compare.l0] at H
   have HC9:=am H
   clear H
   go_upto_region 3 with(fail)
   repeat (go_quiet (fail);go_upto_region 3 with(fail))
   go_cut [23] (fun v23 wc=>∃ (kq : Nat) (x23_8 : Bool),v23 = .bool x23_8∧Aside0 (nat_number_compare.j1 kq x5_1 x6_1 x23_8 l0_0 l1_0 = some r)∧Aside0 (kq≤k1)∧Aside0 (wc.heap[gb235]? = some (.cells #[(.slice A0_0 l0_0.length c0_0)] 83 (0,0)))∧Aside0 (wc.heap[gb236]? = some (.cells #[(.slice A1_0 l1_0.length c1_0)] 83 (0,0)))∧Aside0 (Below w.heap.size w wc))
   case first=>
    have H:=HC9.out
    clear HC9
    by_cases c10 : x6_1≥0
    ·rw [if_pos c10] at H
     have c10b0 : decide (0≤x6_1) = true:=decide_eq_true c10
     clear c10
     (first | rw [c10b0] |(simp only [i64_w,i32_w];rw [c10b0]) | rw [c10b1] | skip)
     have H':=am H
     clear H
     go_wp2
     repeat (go_quiet (fail);try go_wp2)
     go_meet
     case rel=>exact⟨_,((x5_1 == 0)),ze,H',⟨by have:=HK1.out;first | omega | exact Nat.le_refl _⟩,⟨zk BK235.out⟩,⟨zk BK236.out⟩,⟨zb⟩⟩
    ·rw [if_neg c10] at H
     have c10b0 : decide (0≤x6_1) = false:=decide_eq_false c10
     clear c10
     (first | rw [c10b0] |(simp only [i64_w,i32_w];rw [c10b0]) | rw [c10b1] | skip)
     have H':=am H
     clear H
     go_wp2
     repeat (go_quiet (fail);try go_wp2)
     go_meet
     case rel=>exact⟨_,(false),ze,H',⟨by have:=HK1.out;first | omega | exact Nat.le_refl _⟩,⟨zk BK235.out⟩,⟨zk BK236.out⟩,⟨zb⟩⟩
   case rest=>
    clear HC9
    try clear c1
    try clear p2
    try clear c6
    try clear p6
    try clear c8
    try clear c10
    try clear c10b0
    try clear c10b1
    try clear hcz7_0
    try clear hcz8_0
    try clear hfz7_0
    try clear hfz8_0
    try clear p2
    try clear p6
    obtain⟨kq,x23_8,rfl,HA,HJ8,BK235,BK236,HB⟩:=hcut
    cases kq with
    | zero=>exact absurd HA.out (by simp [nat_number_compare.j1])
    | succ kj8=>
     have H:=HA.out
     clear HA
     simp only [nat_number_compare.j1] at H
     by_cases c11 : x23_8 = true
     ·subst c11
      have H1 : ((nat_digits_at.f l0_0 x6_1).bind fun t238=>((nat_digits_at.f l1_0 x6_1).bind fun t239=>((cmp_Compare_uint64.f t238 t239).bind fun t240=>(nat_number_compare.l0 kj8 t240 (wrap64 (x6_1 - 1)) l0_0 l1_0)))) = some r:=by rw [if_pos rfl] at H;exact H
      clear H
      have H:=H1
      clear H1
      replace H:=Option.bind_eq_some_iff.mp H
      obtain⟨t238,A120,H⟩:=H
      try dsimp only at H
      have A12:=am A120
      clear A120
      replace H:=Option.bind_eq_some_iff.mp H
      obtain⟨t239,A130,H⟩:=H
      try dsimp only at H
      have A13:=am A130
      clear A130
      replace H:=Option.bind_eq_some_iff.mp H
      obtain⟨t240,A140,H⟩:=H
      try dsimp only at H
      have A14:=am A140
      clear A140
      have H':=am H
      clear H
      have hnb15:=NB235_236.out
      have hnc15:=NB236_235.out
      have hcz16_0 : wc.cell? ⟨gb235,0,none⟩ = some (.slice A0_0 l0_0.length c0_0):=(blk_cell BK235.out 0).trans rfl
      have hfz16_0:=blk_frozen BK235.out 0
      go_wp2_with (first |(go_at_call 79;(with_reducible refine(nat_digits_at.calls _ _ l0_0 x6_1 t238 _ ?side1 ?side2 A12.out).mono ?_);(case side1=>repeat (first | exact(Kd.C_below HR0_0.out HB.out) |(with_reducible refine Kd.C_alloc ?_ _) |(with_reducible refine Kd.C_drewN ?_ _) |(with_reducible refine Kd.C_drew ?_)));(case side2=>exact HC0_0.out);rintro e w' ⟨rfl,⟨nd,rfl⟩⟩;(try first | exact⟨rfl,_,World.drewN_drewN _ _ _⟩ | exact⟨rfl,_,Eq.trans (World.drewN_drewN _ _ _) (congrArg (World.drewN _) (Nat.add_assoc _ _ _))⟩);have hcz17_0 : wc.cell? ⟨gb236,0,none⟩ = some (.slice A1_0 l1_0.length c1_0):=(blk_cell BK236.out 0).trans rfl;have hfz17_0:=blk_frozen BK236.out 0) |(go_at_call 79;(with_reducible refine(nat_digits_at.calls _ _ l1_0 x6_1 t239 _ ?side1 ?side2 A13.out).mono ?_);(case side1=>repeat (first | exact(Kd.C_below HR1_0.out zb) |(with_reducible refine Kd.C_alloc ?_ _) |(with_reducible refine Kd.C_drewN ?_ _) |(with_reducible refine Kd.C_drew ?_)));(case side2=>exact HC1_0.out);rintro e w' ⟨rfl,⟨nd,rfl⟩⟩;(try first | exact⟨rfl,_,World.drewN_drewN _ _ _⟩ | exact⟨rfl,_,Eq.trans (World.drewN_drewN _ _ _) (congrArg (World.drewN _) (Nat.add_assoc _ _ _))⟩)) |(go_at_call 109;(with_reducible refine(cmp_Compare_uint64.calls t238 t239 t240 _ A14.out).mono ?_);rintro e w' ⟨rfl,⟨nd,rfl⟩⟩;(try first | exact⟨rfl,_,World.drewN_drewN _ _ _⟩ | exact⟨rfl,_,Eq.trans (World.drewN_drewN _ _ _) (congrArg (World.drewN _) (Nat.add_assoc _ _ _))⟩)))
      repeat (go_quiet (first |(go_at_call 79;(with_reducible refine(nat_digits_at.calls _ _ l0_0 x6_1 t238 _ ?side1 ?side2 A12.out).mono ?_);(case side1=>repeat (first | exact(Kd.C_below HR0_0.out HB.out) |(with_reducible refine Kd.C_alloc ?_ _) |(with_reducible refine Kd.C_drewN ?_ _) |(with_reducible refine Kd.C_drew ?_)));(case side2=>exact HC0_0.out);rintro e w' ⟨rfl,⟨nd,rfl⟩⟩;(try first | exact⟨rfl,_,World.drewN_drewN _ _ _⟩ | exact⟨rfl,_,Eq.trans (World.drewN_drewN _ _ _) (congrArg (World.drewN _) (Nat.add_assoc _ _ _))⟩);have hcz17_0 : wc.cell? ⟨gb236,0,none⟩ = some (.slice A1_0 l1_0.length c1_0):=(blk_cell BK236.out 0).trans rfl;have hfz17_0:=blk_frozen BK236.out 0) |(go_at_call 79;(with_reducible refine(nat_digits_at.calls _ _ l1_0 x6_1 t239 _ ?side1 ?side2 A13.out).mono ?_);(case side1=>repeat (first | exact(Kd.C_below HR1_0.out zb) |(with_reducible refine Kd.C_alloc ?_ _) |(with_reducible refine Kd.C_drewN ?_ _) |(with_reducible refine Kd.C_drew ?_)));(case side2=>exact HC1_0.out);rintro e w' ⟨rfl,⟨nd,rfl⟩⟩;(try first | exact⟨rfl,_,World.drewN_drewN _ _ _⟩ | exact⟨rfl,_,Eq.trans (World.drewN_drewN _ _ _) (congrArg (World.drewN _) (Nat.add_assoc _ _ _))⟩)) |(go_at_call 109;(with_reducible refine(cmp_Compare_uint64.calls t238 t239 t240 _ A14.out).mono ?_);rintro e w' ⟨rfl,⟨nd,rfl⟩⟩;(try first | exact⟨rfl,_,World.drewN_drewN _ _ _⟩ | exact⟨rfl,_,Eq.trans (World.drewN_drewN _ _ _) (congrArg (World.drewN _) (Nat.add_assoc _ _ _))⟩)));try go_wp2_with (first |(go_at_call 79;(with_reducible refine(nat_digits_at.calls _ _ l0_0 x6_1 t238 _ ?side1 ?side2 A12.out).mono ?_);(case side1=>repeat (first | exact(Kd.C_below HR0_0.out HB.out) |(with_reducible refine Kd.C_alloc ?_ _) |(with_reducible refine Kd.C_drewN ?_ _) |(with_reducible refine Kd.C_drew ?_)));(case side2=>exact HC0_0.out);rintro e w' ⟨rfl,⟨nd,rfl⟩⟩;(try first | exact⟨rfl,_,World.drewN_drewN _ _ _⟩ | exact⟨rfl,_,Eq.trans (World.drewN_drewN _ _ _) (congrArg (World.drewN _) (Nat.add_assoc _ _ _))⟩);have hcz17_0 : wc.cell? ⟨gb236,0,none⟩ = some (.slice A1_0 l1_0.length c1_0):=(blk_cell BK236.out 0).trans rfl;have hfz17_0:=blk_frozen BK236.out 0) |(go_at_call 79;(with_reducible refine(nat_digits_at.calls _ _ l1_0 x6_1 t239 _ ?side1 ?side2 A13.out).mono ?_);(case side1=>repeat (first | exact(Kd.C_below HR1_0.out zb) |(with_reducible refine Kd.C_alloc ?_ _) |(with_reducible refine Kd.C_drewN ?_ _) |(with_reducible refine Kd.C_drew ?_)));(case side2=>exact HC1_0.out);rintro e w' ⟨rfl,⟨nd,rfl⟩⟩;(try first | exact⟨rfl,_,World.drewN_drewN _ _ _⟩ | exact⟨rfl,_,Eq.trans (World.drewN_drewN _ _ _) (congrArg (World.drewN _) (Nat.add_assoc _ _ _))⟩)) |(go_at_call 109;(with_reducible refine(cmp_Compare_uint64.calls t238 t239 t240 _ A14.out).mono ?_);rintro e w' ⟨rfl,⟨nd,rfl⟩⟩;(try first | exact⟨rfl,_,World.drewN_drewN _ _ _⟩ | exact⟨rfl,_,Eq.trans (World.drewN_drewN _ _ _) (congrArg (World.drewN _) (Nat.add_assoc _ _ _))⟩))))
      go_roundg kj8
      case measure=>have:=HK1.out;have:=HJ8.out;omega
      case rel=>exact⟨(t240),(wrap64 (x6_1 - 1)),ze,ze,H',⟨by have:=HK1.out;have:=HJ8.out;omega⟩,⟨zk BK235.out⟩,⟨zk BK236.out⟩,⟨zb⟩⟩
     ·replace c11:=Bool.eq_false_iff.mpr c11
      subst c11
      have H1 : (some x5_1) = some r:=by rw [if_neg (show ¬ (false = true) by decide)] at H;exact H
      clear H
      have H:=H1
      clear H1
      obtain rfl:=Option.some.inj H
      go_wp2
      repeat (go_quiet (fail);try go_wp2)
      go_ret
      exact⟨zf,zb⟩

end Go.Proofs.YtcbohpmdeboeoaaGreatDoorRR.X

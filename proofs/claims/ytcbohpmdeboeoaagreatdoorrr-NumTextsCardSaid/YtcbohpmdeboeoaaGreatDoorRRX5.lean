-- Printed by xprint.py, this session's own program (wip/tool), out of the translation. Lean checks it.
import Derived.Test.YtcbohpmdeboeoaaGreatDoorRRZ
import Derived.Test.YtcbohpmdeboeoaaGreatDoorRRX0
import Derived.Test.YtcbohpmdeboeoaaGreatDoorRRX1
import Derived.Test.YtcbohpmdeboeoaaGreatDoorRRX4
namespace Go.Proofs.YtcbohpmdeboeoaaGreatDoorRR.X
open Go.Proofs.YtcbohpmdeboeoaaGreatDoorRR.Z
open Go.RowKit Go.Proofs.YtcbohpmdeboeoaaGreatDoorRRW.PrintWords Go.Proofs.YtcbohpmdeboeoaaGreatDoorRRW.PrintLast Go.Proofs.YtcbohpmdeboeoaaGreatDoorRRW.PrintMore
open List renaming setIfInBounds_toArray → sA, set_cons_zero → sZ, set_cons_succ → sS
open Aside0 renaming mk → am
open Bool renaming true → tt, false → ff
set_option maxHeartbeats 8000000
set_option maxRecDepth 100000
attribute [local go_sem] max2_int min2_int max_two min_two max_three min_three max_four min_four   -- for this text's walks alone
set_option linter.unusedVariables false
set_option linter.unusedSimpArgs false

/-! ### nat_number_times: function 93 -/
mutual
def nat_number_times.l0 : Nat→List Int→List Int→Int→Int→List Int→Option (List Int)
 | 0,_,_,_,_,_=>none
 | k + 1,x5,x20,x21,x22,x243000=>if x22 < x21 then(if 0≤x22 then(if x22 < (x20.length : Int) then(nat_number_times.l1 k x5 x22 (rd x20 x22) 0 0 x20 x21 x22 x243000) else(none)) else(none)) else((nat_carried.f k x5).bind fun t247=>(some t247))
def nat_number_times.l1 : Nat→List Int→Int→Int→Int→Int→List Int→Int→Int→List Int→Option (List Int)
 | 0,_,_,_,_,_,_,_,_,_=>none
 | k + 1,x5,x6,x7,x8,x9,x20,x21,x22,x243000=>if x9 < (x243000.length : Int) then(if 0≤(wrap64 (x6 + x9)) then(if (wrap64 (x6 + x9)) < (x5.length : Int) then((nat_digits_at.f x243000 x9).bind fun t252=>(nat_number_times.l1 k (x5.set ((wrap64 (x6 + x9)) : Int).toNat (Int.tmod (IntKind.u64.wrap (x8 + (IntKind.u64.wrap ((rd x5 (wrap64 (x6 + x9))) + (IntKind.u64.wrap (x7 * t252)))))) 1000000000)) x6 x7 (IntKind.u64.wrap (Int.tdiv (IntKind.u64.wrap (x8 + (IntKind.u64.wrap ((rd x5 (wrap64 (x6 + x9))) + (IntKind.u64.wrap (x7 * t252)))))) 1000000000)) (wrap64 (x9 + 1)) x20 x21 x22 x243000)) else(none)) else(none)) else(if x8 > 0 then(if 0≤(wrap64 (x6 + x9)) then(if (wrap64 (x6 + x9)) < (x5.length : Int) then((nat_digits_at.f x243000 x9).bind fun t255=>(nat_number_times.l1 k (x5.set ((wrap64 (x6 + x9)) : Int).toNat (Int.tmod (IntKind.u64.wrap (x8 + (IntKind.u64.wrap ((rd x5 (wrap64 (x6 + x9))) + (IntKind.u64.wrap (x7 * t255)))))) 1000000000)) x6 x7 (IntKind.u64.wrap (Int.tdiv (IntKind.u64.wrap (x8 + (IntKind.u64.wrap ((rd x5 (wrap64 (x6 + x9))) + (IntKind.u64.wrap (x7 * t255)))))) 1000000000)) (wrap64 (x9 + 1)) x20 x21 x22 x243000)) else(none)) else(none)) else(nat_number_times.l0 k x5 x20 x21 (wrap64 (x22 + 1)) x243000))
end
def nat_number_times.f (k : Nat) (l0_0 : List Int) (l1_0 : List Int) : Option (List Int):=if 0≤(wrap64 ((wrap64 ((l0_0.length : Int) + (l1_0.length : Int))) + 1)) then(if (wrap64 ((wrap64 ((l0_0.length : Int) + (l1_0.length : Int))) + 1) : Int).toNat≤35184372088832 then(nat_number_times.l0 k (List.replicate (wrap64 ((wrap64 ((l0_0.length : Int) + (l1_0.length : Int))) + 1) : Int).toNat 0) l0_0 (l0_0.length : Int) 0 l1_0) else(none)) else(none)
theorem nat_number_times.calls (k : Nat) (A0_0 : Option Addr) (c0_0 : Nat) (l0_0 : List Int) (A1_0 : Option Addr) (c1_0 : Nat) (l1_0 : List Int) (r : List Int) (w : World) (hr0_0 : Kd.C (Kd.int .u64) w A0_0 l0_0.length l0_0) (hc0_0 : l0_0.length≤c0_0) (hr1_0 : Kd.C (Kd.int .u64) w A1_0 l1_0.length l1_0) (hc1_0 : l1_0.length≤c1_0) (h : nat_number_times.f k l0_0 l1_0 = some r) :
  Calls Tryz.prog 93 #[.agg #[.slice A0_0 l0_0.length c0_0],.agg #[.slice A1_0 l1_0.length c1_0]] w fun e w'=>∃ v0_ : Value,e = .returned (.agg #[v0_])∧Kd.R (Kd.int .u64) 59 w' w.heap.size (fun _=>True) v0_ r∧Below w.heap.size w w':=by
 have hu83:=Tryz.underlying83
 have HR0_0:=am hr0_0
 have HC0_0:=am hc0_0
 clear hr0_0 hc0_0
 have HR1_0:=am hr1_0
 have HC1_0:=am hc1_0
 clear hr1_0 hc1_0
 have HB:=am (Below.refl w.heap.size w)
 have H : (if 0≤(wrap64 ((wrap64 ((l0_0.length : Int) + (l1_0.length : Int))) + 1)) then(if (wrap64 ((wrap64 ((l0_0.length : Int) + (l1_0.length : Int))) + 1) : Int).toNat≤35184372088832 then(nat_number_times.l0 k (List.replicate (wrap64 ((wrap64 ((l0_0.length : Int) + (l1_0.length : Int))) + 1) : Int).toNat 0) l0_0 (l0_0.length : Int) 0 l1_0) else(none)) else(none)) = some r:=h
 clear h
 obtain⟨ji3,hji3⟩ : ∃ j_ : Int,(wrap64 ((wrap64 ((l0_0.length : Int) + (l1_0.length : Int))) + 1)) = j_:=⟨_,rfl⟩
 replace H : (if 0≤(ji3) then(if (ji3 : Int).toNat≤35184372088832 then(nat_number_times.l0 k (List.replicate (ji3 : Int).toNat 0) l0_0 (l0_0.length : Int) 0 l1_0) else(none)) else(none)) = some r:=by first |(rw [hji3] at H;exact H) |(simp only [hji3] at H ⊢;exact H)
 have hji3w : (IntKind.i64.wrap ((wrap64 ((l0_0.length : Int) + (l1_0.length : Int))) + 1)) = ji3:=(i64_w _).trans hji3
 by_cases c4 : 0≤(ji3)
 ·rw [if_pos c4] at H
  have c4b0:=eq_true c4
  have c4b1 : decide (0≤(ji3)) = true:=decide_eq_true c4
  clear c4
  by_cases c5 : (ji3 : Int).toNat≤35184372088832
  ·rw [if_pos c5] at H
   have c5b0:=eq_true c5
   have c5b1 : decide ((ji3 : Int).toNat≤35184372088832) = true:=decide_eq_true c5
   clear c5
   obtain⟨y244,hy244⟩ : ∃ y_ : List Int,y_ = (List.replicate (ji3 : Int).toNat 0):=⟨_,rfl⟩
   replace H : (nat_number_times.l0 k y244 l0_0 (l0_0.length : Int) 0 l1_0) = some r:=by first |(rw [hy244];with_reducible exact H) |(have H2_:=(Option.bind_some _ _).symm.trans H;rw [hy244];with_reducible exact H2_) |(have H2_:=(Option.bind_some _ _).symm.trans H;with_reducible exact H2_) | with_reducible exact H |(rw [hy244];exact H) | exact H
   have Ny244:=am hy244
   clear hy244
   have H':=am H
   clear H
   go_enter Tryz.func93,Tryz.ntmps93
   go_wp2_with (first |((with_reducible refine gate_dst (N:=2) rfl ?_);refine box_event ?hg (N:=2) ?hd (cs:=#[.slice A0_0 l0_0.length c0_0]) (t:=83) ?hr ?_;(case hd=>rfl);(case hg=>rfl);(case hr=>exact zh);intro gb241 hg w6 hbox hb;have BK241:=am (hbox);have GW241:=gw w hg;have GE241:=gw w hg;replace HB:=am (below_step zb hb);clear hb hbox hg) |((with_reducible refine gate_dst (N:=3) rfl ?_);refine box_event ?hg (N:=3) ?hd (cs:=#[.slice A1_0 l1_0.length c1_0]) (t:=83) ?hr ?_;(case hd=>rfl);(case hg=>rfl);(case hr=>exact zh);intro gb242 hg w7 hbox hb;have BK242:=am (hbox);have GW242:=gw w hg;have GE242:=gw w hg;replace HB:=am (below_step zb hb);have NB241_242:=nl BK241 hg;have NB242_241:=nr BK241 hg;replace BK241:=kb BK241 hb;clear hb hbox hg) |((with_reducible refine gate_dst (N:=4) rfl ?_);refine box_event ?hg (N:=4) ?hd (cs:=#[.slice none 0 0]) (t:=83) ?hr ?_;(case hd=>rfl);(case hg=>rfl);(case hr=>exact zh);intro gb243 hg w8 hbox hb;have BK243:=am (hbox);have GW243:=gw w hg;have GE243:=gw w hg;replace HB:=am (below_step zb hb);have NB241_243:=nl BK241 hg;have NB243_241:=nr BK241 hg;replace BK241:=kb BK241 hb;have NB242_243:=nl BK242 hg;have NB243_242:=nr BK242 hg;replace BK242:=kb BK242 hb;clear hb hbox hg;have hnb9:=NB241_242.out;have hnc9:=NB242_241.out;have hnb10:=NB241_243.out;have hnc10:=NB243_241.out;have hcz11_0 : w8.cell? ⟨gb241,0,none⟩ = some (.slice A0_0 l0_0.length c0_0):=(blk_cell BK241.out 0).trans rfl;have hfz11_0:=blk_frozen BK241.out 0;have hnb12:=NB242_243.out;have hnc12:=NB243_242.out;have hcz13_0 : w8.cell? ⟨gb242,0,none⟩ = some (.slice A1_0 l1_0.length c1_0):=(blk_cell BK242.out 0).trans rfl;have hfz13_0:=blk_frozen BK242.out 0) |((with_reducible refine gate_dst (N:=18) rfl ?_);refine Kd.R_make (Kd.int .u64) _ 59 rfl (N:=18) rfl 77 _ _ rfl ji3 rfl rfl Tryz.underlying77 (.int .u64 0) 8 info59 rfl (by decide) (by omega) 0 (ok:=fun _=>True) (okp:=fun _=>True) rfl (fun _ hk=>hk) trivial (of_decide_eq_true za) (Nat.le_trans (Nat.mul_le_mul_right _ (of_decide_eq_true za : ji3.toNat≤35184372088832)) (by omega)) (Below.refl _ _) (Nat.le_refl _) ?_;intro v245 w14 ho15 hb hg_ hnew_;clear hg_ hnew_;(first | rw [← Ny244.out] at ho15 |(simp only [Int.reduceToNat] at ho15;rw [← Ny244.out] at ho15));have HO246:=am (Kd.R_lower ho15 (below_size zb));replace BK241:=kb BK241 hb;replace BK242:=kb BK242 hb;replace BK243:=kb BK243 hb;replace HB:=am (below_step zb hb);clear hb ho15;have hcz16_0 : w14.cell? ⟨gb241,0,none⟩ = some (.slice A0_0 l0_0.length c0_0):=(blk_cell BK241.out 0).trans rfl;have hfz16_0:=blk_frozen BK241.out 0))
   repeat (go_quiet (first |((with_reducible refine gate_dst (N:=2) rfl ?_);refine box_event ?hg (N:=2) ?hd (cs:=#[.slice A0_0 l0_0.length c0_0]) (t:=83) ?hr ?_;(case hd=>rfl);(case hg=>rfl);(case hr=>exact zh);intro gb241 hg w6 hbox hb;have BK241:=am (hbox);have GW241:=gw w hg;have GE241:=gw w hg;replace HB:=am (below_step zb hb);clear hb hbox hg) |((with_reducible refine gate_dst (N:=3) rfl ?_);refine box_event ?hg (N:=3) ?hd (cs:=#[.slice A1_0 l1_0.length c1_0]) (t:=83) ?hr ?_;(case hd=>rfl);(case hg=>rfl);(case hr=>exact zh);intro gb242 hg w7 hbox hb;have BK242:=am (hbox);have GW242:=gw w hg;have GE242:=gw w hg;replace HB:=am (below_step zb hb);have NB241_242:=nl BK241 hg;have NB242_241:=nr BK241 hg;replace BK241:=kb BK241 hb;clear hb hbox hg) |((with_reducible refine gate_dst (N:=4) rfl ?_);refine box_event ?hg (N:=4) ?hd (cs:=#[.slice none 0 0]) (t:=83) ?hr ?_;(case hd=>rfl);(case hg=>rfl);(case hr=>exact zh);intro gb243 hg w8 hbox hb;have BK243:=am (hbox);have GW243:=gw w hg;have GE243:=gw w hg;replace HB:=am (below_step zb hb);have NB241_243:=nl BK241 hg;have NB243_241:=nr BK241 hg;replace BK241:=kb BK241 hb;have NB242_243:=nl BK242 hg;have NB243_242:=nr BK242 hg;replace BK242:=kb BK242 hb;clear hb hbox hg;have hnb9:=NB241_242.out;have hnc9:=NB242_241.out;have hnb10:=NB241_243.out;have hnc10:=NB243_241.out;have hcz11_0 : w8.cell? ⟨gb241,0,none⟩ = some (.slice A0_0 l0_0.length c0_0):=(blk_cell BK241.out 0).trans rfl;have hfz11_0:=blk_frozen BK241.out 0;have hnb12:=NB242_243.out;have hnc12:=NB243_242.out;have hcz13_0 : w8.cell? ⟨gb242,0,none⟩ = some (.slice A1_0 l1_0.length c1_0):=(blk_cell BK242.out 0).trans rfl;have hfz13_0:=blk_frozen BK242.out 0) |((with_reducible refine gate_dst (N:=18) rfl ?_);refine Kd.R_make (Kd.int .u64) _ 59 rfl (N:=18) rfl 77 _ _ rfl ji3 rfl rfl Tryz.underlying77 (.int .u64 0) 8 info59 rfl (by decide) (by omega) 0 (ok:=fun _=>True) (okp:=fun _=>True) rfl (fun _ hk=>hk) trivial (of_decide_eq_true za) (Nat.le_trans (Nat.mul_le_mul_right _ (of_decide_eq_true za : ji3.toNat≤35184372088832)) (by omega)) (Below.refl _ _) (Nat.le_refl _) ?_;intro v245 w14 ho15 hb hg_ hnew_;clear hg_ hnew_;(first | rw [← Ny244.out] at ho15 |(simp only [Int.reduceToNat] at ho15;rw [← Ny244.out] at ho15));have HO246:=am (Kd.R_lower ho15 (below_size zb));replace BK241:=kb BK241 hb;replace BK242:=kb BK242 hb;replace BK243:=kb BK243 hb;replace HB:=am (below_step zb hb);clear hb ho15;have hcz16_0 : w14.cell? ⟨gb241,0,none⟩ = some (.slice A0_0 l0_0.length c0_0):=(blk_cell BK241.out 0).trans rfl;have hfz16_0:=blk_frozen BK241.out 0));try go_wp2_with (first |((with_reducible refine gate_dst (N:=2) rfl ?_);refine box_event ?hg (N:=2) ?hd (cs:=#[.slice A0_0 l0_0.length c0_0]) (t:=83) ?hr ?_;(case hd=>rfl);(case hg=>rfl);(case hr=>exact zh);intro gb241 hg w6 hbox hb;have BK241:=am (hbox);have GW241:=gw w hg;have GE241:=gw w hg;replace HB:=am (below_step zb hb);clear hb hbox hg) |((with_reducible refine gate_dst (N:=3) rfl ?_);refine box_event ?hg (N:=3) ?hd (cs:=#[.slice A1_0 l1_0.length c1_0]) (t:=83) ?hr ?_;(case hd=>rfl);(case hg=>rfl);(case hr=>exact zh);intro gb242 hg w7 hbox hb;have BK242:=am (hbox);have GW242:=gw w hg;have GE242:=gw w hg;replace HB:=am (below_step zb hb);have NB241_242:=nl BK241 hg;have NB242_241:=nr BK241 hg;replace BK241:=kb BK241 hb;clear hb hbox hg) |((with_reducible refine gate_dst (N:=4) rfl ?_);refine box_event ?hg (N:=4) ?hd (cs:=#[.slice none 0 0]) (t:=83) ?hr ?_;(case hd=>rfl);(case hg=>rfl);(case hr=>exact zh);intro gb243 hg w8 hbox hb;have BK243:=am (hbox);have GW243:=gw w hg;have GE243:=gw w hg;replace HB:=am (below_step zb hb);have NB241_243:=nl BK241 hg;have NB243_241:=nr BK241 hg;replace BK241:=kb BK241 hb;have NB242_243:=nl BK242 hg;have NB243_242:=nr BK242 hg;replace BK242:=kb BK242 hb;clear hb hbox hg;have hnb9:=NB241_242.out;have hnc9:=NB242_241.out;have hnb10:=NB241_243.out;have hnc10:=NB243_241.out;have hcz11_0 : w8.cell? ⟨gb241,0,none⟩ = some (.slice A0_0 l0_0.length c0_0):=(blk_cell BK241.out 0).trans rfl;have hfz11_0:=blk_frozen BK241.out 0;have hnb12:=NB242_243.out;have hnc12:=NB243_242.out;have hcz13_0 : w8.cell? ⟨gb242,0,none⟩ = some (.slice A1_0 l1_0.length c1_0):=(blk_cell BK242.out 0).trans rfl;have hfz13_0:=blk_frozen BK242.out 0) |((with_reducible refine gate_dst (N:=18) rfl ?_);refine Kd.R_make (Kd.int .u64) _ 59 rfl (N:=18) rfl 77 _ _ rfl ji3 rfl rfl Tryz.underlying77 (.int .u64 0) 8 info59 rfl (by decide) (by omega) 0 (ok:=fun _=>True) (okp:=fun _=>True) rfl (fun _ hk=>hk) trivial (of_decide_eq_true za) (Nat.le_trans (Nat.mul_le_mul_right _ (of_decide_eq_true za : ji3.toNat≤35184372088832)) (by omega)) (Below.refl _ _) (Nat.le_refl _) ?_;intro v245 w14 ho15 hb hg_ hnew_;clear hg_ hnew_;(first | rw [← Ny244.out] at ho15 |(simp only [Int.reduceToNat] at ho15;rw [← Ny244.out] at ho15));have HO246:=am (Kd.R_lower ho15 (below_size zb));replace BK241:=kb BK241 hb;replace BK242:=kb BK242 hb;replace BK243:=kb BK243 hb;replace HB:=am (below_step zb hb);clear hb ho15;have hcz16_0 : w14.cell? ⟨gb241,0,none⟩ = some (.slice A0_0 l0_0.length c0_0):=(blk_cell BK241.out 0).trans rfl;have hfz16_0:=blk_frozen BK241.out 0)))
   go_loopg [22] k (fun kq v22 w'=>∃ (x5_1 : List Int) (x22_1 : Int),v22 = .int .i64 x22_1∧Aside0 (nat_number_times.l0 kq x5_1 l0_0 (l0_0.length : Int) x22_1 l1_0 = some r)∧Aside0 (kq≤k)∧Aside0 (Kd.R (Kd.int .u64) 59 w' w.heap.size (fun _=>True) v245 x5_1)∧Aside0 (w'.heap[gb241]? = some (.cells #[(.slice A0_0 l0_0.length c0_0)] 83 (0,0)))∧Aside0 (w'.heap[gb242]? = some (.cells #[(.slice A1_0 l1_0.length c1_0)] 83 (0,0)))∧Aside0 (w'.heap[gb243]? = some (.cells #[(.slice none 0 0)] 83 (0,0)))∧Aside0 (Below w.heap.size w w'))
   case atStart=>exact⟨(y244),(0),ze,H',⟨Nat.le_refl _⟩,⟨zR HO246.out⟩,⟨zk BK241.out⟩,⟨zk BK242.out⟩,⟨zk BK243.out⟩,⟨zb⟩⟩
   case round=>
    clear H'
    try clear c1
    try clear p2
    try clear c4
    try clear c4b0
    try clear c4b1
    try clear c5
    try clear c5b0
    try clear c5b1
    try clear p6
    try clear c9
    try clear c10
    try clear c12
    try clear hcz11_0
    try clear hcz13_0
    try clear hcz16_0
    try clear hfz11_0
    try clear hfz13_0
    try clear hfz16_0
    obtain⟨x5_1,x22_1,rfl,HA,HK1,HO_5,BK241,BK242,BK243,HB⟩:=hrel
    cases gk with
    | zero=>exact absurd HA.out (by simp [nat_number_times.l0])
    | succ k1=>
     have H:=HA.out
     clear HA
     simp only [nat_number_times.l0] at H
     by_cases c17 : x22_1 < (l0_0.length : Int)
     ·rw [if_pos c17] at H
      have c17b0 : decide (x22_1 < (l0_0.length : Int)) = true:=decide_eq_true c17
      clear c17
      by_cases c18 : 0≤x22_1
      ·rw [if_pos c18] at H
       have c18b0 : decide (0≤x22_1) = true:=decide_eq_true c18
       clear c18
       by_cases c19 : x22_1 < (l0_0.length : Int)
       ·rw [if_pos c19] at H
        have c19b0 : decide (x22_1 < (l0_0.length : Int)) = true:=decide_eq_true c19
        clear c19
        have H':=am H
        clear H
        have p250 : 0≤(x22_1 : Int):=of_decide_eq_true za
        have q250 : x22_1 < (l0_0.length : Int):=of_decide_eq_true za
        obtain⟨ad250,e250,hx250_0⟩:=Kd.at_int HR0_0.out x22_1 p250 q250
        cases e250
        replace hx250_0:=(HB.out.cell (World.block_lt_of_cell? w _ hx250_0)).trans hx250_0
        replace p250:=eq_true p250
        replace q250:=eq_true q250
        go_wp2
        repeat (go_quiet (fail);try go_wp2)
        go_loopg [8,9] k1 (fun kq v8 v9 w'=>∃ (x5_2 : List Int) (x8_2 : Int) (x9_2 : Int),v8 = .int .u64 x8_2∧v9 = .int .i64 x9_2∧Aside0 (nat_number_times.l1 kq x5_2 x22_1 (rd l0_0 x22_1) x8_2 x9_2 l0_0 (l0_0.length : Int) x22_1 l1_0 = some r)∧Aside0 (kq≤k1)∧Aside0 (Kd.R (Kd.int .u64) 59 w' w.heap.size (fun _=>True) v245 x5_2)∧Aside0 (w'.heap[gb241]? = some (.cells #[(.slice (some ad250) l0_0.length c0_0)] 83 (0,0)))∧Aside0 (w'.heap[gb242]? = some (.cells #[(.slice A1_0 l1_0.length c1_0)] 83 (0,0)))∧Aside0 (w'.heap[gb243]? = some (.cells #[(.slice none 0 0)] 83 (0,0)))∧Aside0 (Below w.heap.size w w'))
        case atStart=>exact⟨(x5_1),(0),(0),ze,ze,H',⟨Nat.le_refl _⟩,⟨zR HO_5.out⟩,⟨zk BK241.out⟩,⟨zk BK242.out⟩,⟨zk BK243.out⟩,⟨zb⟩⟩
        case round=>
         clear H'
         try clear c1
         try clear p2
         try clear q2
         try clear hx2
         try clear c4
         try clear c4b0
         try clear c4b1
         try clear c5
         try clear c5b0
         try clear c5b1
         try clear p6
         try clear c9
         try clear c10
         try clear c12
         try clear c17
         try clear c17b0
         try clear c18
         try clear c18b0
         try clear c19
         try clear c19b0
         try clear hcz11_0
         try clear hcz13_0
         try clear hcz16_0
         try clear hfz11_0
         try clear hfz13_0
         try clear hfz16_0
         try clear hx250_0
         try clear p2
         try clear p250
         try clear p6
         try clear q250
         obtain⟨x5_2,x8_2,x9_2,rfl,rfl,HA,HK2,HO_5,BK241,BK242,BK243,HB⟩:=hrel
         cases gk with
         | zero=>exact absurd HA.out (by simp [nat_number_times.l1])
         | succ k2=>
          have H:=HA.out
          clear HA
          simp only [nat_number_times.l1] at H
          by_cases c20 : x9_2 < (l1_0.length : Int)
          ·rw [if_pos c20] at H
           have c20b0 : decide (x9_2 < (l1_0.length : Int)) = true:=decide_eq_true c20
           clear c20
           obtain⟨ji21,hji21⟩ : ∃ j_ : Int,(wrap64 (x22_1 + x9_2)) = j_:=⟨_,rfl⟩
           replace H : (if 0≤(ji21) then(if (ji21) < (x5_2.length : Int) then((nat_digits_at.f l1_0 x9_2).bind fun t252=>(nat_number_times.l1 k2 (x5_2.set ((ji21) : Int).toNat (Int.tmod (IntKind.u64.wrap (x8_2 + (IntKind.u64.wrap ((rd x5_2 (ji21)) + (IntKind.u64.wrap ((rd l0_0 x22_1) * t252)))))) 1000000000)) x22_1 (rd l0_0 x22_1) (IntKind.u64.wrap (Int.tdiv (IntKind.u64.wrap (x8_2 + (IntKind.u64.wrap ((rd x5_2 (ji21)) + (IntKind.u64.wrap ((rd l0_0 x22_1) * t252)))))) 1000000000)) (wrap64 (x9_2 + 1)) l0_0 (l0_0.length : Int) x22_1 l1_0)) else(none)) else(none)) = some r:=by first |(rw [hji21] at H;exact H) |(simp only [hji21] at H ⊢;exact H)
           have hji21w : (IntKind.i64.wrap (x22_1 + x9_2)) = ji21:=(i64_w _).trans hji21
           by_cases c22 : 0≤(ji21)
           ·rw [if_pos c22] at H
            have c22b0 : decide (0≤(ji21)) = true:=decide_eq_true c22
            clear c22
            by_cases c23 : (ji21) < (x5_2.length : Int)
            ·rw [if_pos c23] at H
             have c23b0 : decide ((ji21) < (x5_2.length : Int)) = true:=decide_eq_true c23
             clear c23
             replace H:=Option.bind_eq_some_iff.mp H
             obtain⟨t252,A240,H⟩:=H
             try dsimp only at H
             have A24:=am A240
             clear A240
             obtain⟨y253,hy253⟩ : ∃ y_ : List Int,y_ = (x5_2.set ((ji21) : Int).toNat (Int.tmod (IntKind.u64.wrap (x8_2 + (IntKind.u64.wrap ((rd x5_2 (ji21)) + (IntKind.u64.wrap ((rd l0_0 x22_1) * t252)))))) 1000000000)):=⟨_,rfl⟩
             replace H : (nat_number_times.l1 k2 y253 x22_1 (rd l0_0 x22_1) (IntKind.u64.wrap (Int.tdiv (IntKind.u64.wrap (x8_2 + (IntKind.u64.wrap ((rd x5_2 (ji21)) + (IntKind.u64.wrap ((rd l0_0 x22_1) * t252)))))) 1000000000)) (wrap64 (x9_2 + 1)) l0_0 (l0_0.length : Int) x22_1 l1_0) = some r:=by first |(rw [hy253];with_reducible exact H) |(have H2_:=(Option.bind_some _ _).symm.trans H;rw [hy253];with_reducible exact H2_) |(have H2_:=(Option.bind_some _ _).symm.trans H;with_reducible exact H2_) | with_reducible exact H |(rw [hy253];exact H) | exact H
             have Ny253:=am hy253
             clear hy253
             have H':=am H
             clear H
             have hnb26:=NB242_241.out
             have hnc26:=NB241_242.out
             have hnb27:=NB242_243.out
             have hnc27:=NB243_242.out
             have hcz28_0 : wr.cell? ⟨gb242,0,none⟩ = some (.slice A1_0 l1_0.length c1_0):=(blk_cell BK242.out 0).trans rfl
             have hfz28_0:=blk_frozen BK242.out 0
             obtain⟨Ao29,co29,eo29⟩:=Kd.R_slice HO_5.out
             subst eo29
             have p251 : 0≤((ji21) : Int):=of_decide_eq_true za
             have q251 : (ji21) < (x5_2.length : Int):=of_decide_eq_true za
             obtain⟨ad251,e251,hx251_0⟩:=Kd.at_int (Kd.R_reads' HO_5.out).2.2 (ji21) p251 q251
             cases e251
             replace p251:=eq_true p251
             replace q251:=eq_true q251
             go_wp2_with (first |(go_at_call 79;(with_reducible refine(nat_digits_at.calls _ _ l1_0 x9_2 t252 _ ?side1 ?side2 A24.out).mono ?_);(case side1=>repeat (first | exact(Kd.C_below HR1_0.out HB.out) |(with_reducible refine Kd.C_alloc ?_ _) |(with_reducible refine Kd.C_drewN ?_ _) |(with_reducible refine Kd.C_drew ?_)));(case side2=>exact HC1_0.out);rintro e w' ⟨rfl,⟨nd,rfl⟩⟩;(try first | exact⟨rfl,_,World.drewN_drewN _ _ _⟩ | exact⟨rfl,_,Eq.trans (World.drewN_drewN _ _ _) (congrArg (World.drewN _) (Nat.add_assoc _ _ _))⟩);have p25 : 0≤((ji21) : Int):=of_decide_eq_true za;have q25 : ((ji21) : Int) < ((x5_2.length : Int) : Int):=of_decide_eq_true za;obtain⟨go25,co25,eo25,gb25,gl25,cl25,HG25⟩:=Kd.R_form HO_5.out (by omega);(first | cases eo25 |(injection eo25 with ea_ en_ ec_;(first | subst ea_ |(injection ea_ with ea_;subst ea_));subst ec_;clear en_));have GB25:=am gb25;have GG25:=am HG25;clear gb25 gl25 HG25;(first | simp only [add_plain] at hx251_0 | skip);obtain⟨hx25_0,hf25_0⟩:=Kd.R_celln 0 HO_5.out ((ji21) : Int) p25 q25;replace p25:=eq_true p25;replace q25:=eq_true q25;obtain⟨hy30_,hz30_⟩:=Kd.R_celln 0 HO_5.out ((ji21) : Int) (of_decide_eq_true za) (of_decide_eq_true za);have HP30:=Kd.R_putg HO_5.out ((ji21) : Int) (Int.tmod (IntKind.u64.wrap (x8_2 + (IntKind.u64.wrap ((rd x5_2 (ji21)) + (IntKind.u64.wrap ((rd l0_0 x22_1) * t252)))))) 1000000000)) |((with_reducible refine gate_store (t:=59) (p:=59) rfl ?_);(try (rw [drewN_self wr];generalize hq_ : World.drewN wr _ = wr;have n0_:=am (Kd.R_at hq_ HO_5.out);have n1_:=am (blk_at hq_ BK241.out);have n2_:=am (blk_at hq_ BK242.out);have n3_:=am (blk_at hq_ BK243.out);have n4_:=am (below_at hq_ HB.out);clear hq_ HO_5 BK241 BK242 BK243 HB;have HO_5:=n0_;have BK241:=n1_;have BK242:=n2_;have BK243:=n3_;have HB:=n4_;clear n0_ n1_ n2_ n3_ n4_;(try (obtain⟨hy30_,hz30_⟩:=Kd.R_celln 0 HO_5.out ((ji21) : Int) (of_decide_eq_true za) (of_decide_eq_true za)));(try (have HP30:=Kd.R_putg HO_5.out ((ji21) : Int) (Int.tmod (IntKind.u64.wrap (x8_2 + (IntKind.u64.wrap ((rd x5_2 (ji21)) + (IntKind.u64.wrap ((rd l0_0 x22_1) * t252)))))) 1000000000)))));refine store_event (t:=59) (p:=59) (v:=?vo_w31) (w1:=(wr.setCell ⟨go25,((ji21) : Int).toNat,none⟩ (.int .u64 (Int.tmod (IntKind.u64.wrap (x8_2 + (IntKind.u64.wrap ((rd x5_2 (ji21)) + (IntKind.u64.wrap ((rd l0_0 x22_1) * t252)))))) 1000000000)))) ?hg ?ho ?hn ?hr ?_;(case ho=>rfl);(case hg=>rfl);(case hn=>rfl);(case hr=>exact zh);intro w31 hw;have hg : wr.grownBy w31 (some go25):=(by rw [hw];exact HP30.2);have hp_ : Kd.R (Kd.int .u64) 59 w31 w.heap.size (fun _=>True) (.slice (some ⟨go25,0,none⟩) x5_2.length co29) y253:=(by rw [hw,Ny253.out];exact HP30.1);clear HP30;replace BK241:=am (blk_grown (zk BK241.out) hg (Kd.R_ne HO_5.out BK241.out (by decide)));replace BK242:=am (blk_grown (zk BK242.out) hg (Kd.R_ne HO_5.out BK242.out (by decide)));replace BK243:=am (blk_grown (zk BK243.out) hg (Kd.R_ne HO_5.out BK243.out (by decide)));replace HO_5:=am (hp_);replace HB:=am ((by rw [hw];exact below_set (HB.out) GB25.out : Below w.heap.size w w31));clear hg hw hp_))
             repeat (go_quiet (first |(go_at_call 79;(with_reducible refine(nat_digits_at.calls _ _ l1_0 x9_2 t252 _ ?side1 ?side2 A24.out).mono ?_);(case side1=>repeat (first | exact(Kd.C_below HR1_0.out HB.out) |(with_reducible refine Kd.C_alloc ?_ _) |(with_reducible refine Kd.C_drewN ?_ _) |(with_reducible refine Kd.C_drew ?_)));(case side2=>exact HC1_0.out);rintro e w' ⟨rfl,⟨nd,rfl⟩⟩;(try first | exact⟨rfl,_,World.drewN_drewN _ _ _⟩ | exact⟨rfl,_,Eq.trans (World.drewN_drewN _ _ _) (congrArg (World.drewN _) (Nat.add_assoc _ _ _))⟩);have p25 : 0≤((ji21) : Int):=of_decide_eq_true za;have q25 : ((ji21) : Int) < ((x5_2.length : Int) : Int):=of_decide_eq_true za;obtain⟨go25,co25,eo25,gb25,gl25,cl25,HG25⟩:=Kd.R_form HO_5.out (by omega);(first | cases eo25 |(injection eo25 with ea_ en_ ec_;(first | subst ea_ |(injection ea_ with ea_;subst ea_));subst ec_;clear en_));have GB25:=am gb25;have GG25:=am HG25;clear gb25 gl25 HG25;(first | simp only [add_plain] at hx251_0 | skip);obtain⟨hx25_0,hf25_0⟩:=Kd.R_celln 0 HO_5.out ((ji21) : Int) p25 q25;replace p25:=eq_true p25;replace q25:=eq_true q25;obtain⟨hy30_,hz30_⟩:=Kd.R_celln 0 HO_5.out ((ji21) : Int) (of_decide_eq_true za) (of_decide_eq_true za);have HP30:=Kd.R_putg HO_5.out ((ji21) : Int) (Int.tmod (IntKind.u64.wrap (x8_2 + (IntKind.u64.wrap ((rd x5_2 (ji21)) + (IntKind.u64.wrap ((rd l0_0 x22_1) * t252)))))) 1000000000)) |((with_reducible refine gate_store (t:=59) (p:=59) rfl ?_);(try (rw [drewN_self wr];generalize hq_ : World.drewN wr _ = wr;have n0_:=am (Kd.R_at hq_ HO_5.out);have n1_:=am (blk_at hq_ BK241.out);have n2_:=am (blk_at hq_ BK242.out);have n3_:=am (blk_at hq_ BK243.out);have n4_:=am (below_at hq_ HB.out);clear hq_ HO_5 BK241 BK242 BK243 HB;have HO_5:=n0_;have BK241:=n1_;have BK242:=n2_;have BK243:=n3_;have HB:=n4_;clear n0_ n1_ n2_ n3_ n4_;(try (obtain⟨hy30_,hz30_⟩:=Kd.R_celln 0 HO_5.out ((ji21) : Int) (of_decide_eq_true za) (of_decide_eq_true za)));(try (have HP30:=Kd.R_putg HO_5.out ((ji21) : Int) (Int.tmod (IntKind.u64.wrap (x8_2 + (IntKind.u64.wrap ((rd x5_2 (ji21)) + (IntKind.u64.wrap ((rd l0_0 x22_1) * t252)))))) 1000000000)))));refine store_event (t:=59) (p:=59) (v:=?vo_w31) (w1:=(wr.setCell ⟨go25,((ji21) : Int).toNat,none⟩ (.int .u64 (Int.tmod (IntKind.u64.wrap (x8_2 + (IntKind.u64.wrap ((rd x5_2 (ji21)) + (IntKind.u64.wrap ((rd l0_0 x22_1) * t252)))))) 1000000000)))) ?hg ?ho ?hn ?hr ?_;(case ho=>rfl);(case hg=>rfl);(case hn=>rfl);(case hr=>exact zh);intro w31 hw;have hg : wr.grownBy w31 (some go25):=(by rw [hw];exact HP30.2);have hp_ : Kd.R (Kd.int .u64) 59 w31 w.heap.size (fun _=>True) (.slice (some ⟨go25,0,none⟩) x5_2.length co29) y253:=(by rw [hw,Ny253.out];exact HP30.1);clear HP30;replace BK241:=am (blk_grown (zk BK241.out) hg (Kd.R_ne HO_5.out BK241.out (by decide)));replace BK242:=am (blk_grown (zk BK242.out) hg (Kd.R_ne HO_5.out BK242.out (by decide)));replace BK243:=am (blk_grown (zk BK243.out) hg (Kd.R_ne HO_5.out BK243.out (by decide)));replace HO_5:=am (hp_);replace HB:=am ((by rw [hw];exact below_set (HB.out) GB25.out : Below w.heap.size w w31));clear hg hw hp_));try go_wp2_with (first |(go_at_call 79;(with_reducible refine(nat_digits_at.calls _ _ l1_0 x9_2 t252 _ ?side1 ?side2 A24.out).mono ?_);(case side1=>repeat (first | exact(Kd.C_below HR1_0.out HB.out) |(with_reducible refine Kd.C_alloc ?_ _) |(with_reducible refine Kd.C_drewN ?_ _) |(with_reducible refine Kd.C_drew ?_)));(case side2=>exact HC1_0.out);rintro e w' ⟨rfl,⟨nd,rfl⟩⟩;(try first | exact⟨rfl,_,World.drewN_drewN _ _ _⟩ | exact⟨rfl,_,Eq.trans (World.drewN_drewN _ _ _) (congrArg (World.drewN _) (Nat.add_assoc _ _ _))⟩);have p25 : 0≤((ji21) : Int):=of_decide_eq_true za;have q25 : ((ji21) : Int) < ((x5_2.length : Int) : Int):=of_decide_eq_true za;obtain⟨go25,co25,eo25,gb25,gl25,cl25,HG25⟩:=Kd.R_form HO_5.out (by omega);(first | cases eo25 |(injection eo25 with ea_ en_ ec_;(first | subst ea_ |(injection ea_ with ea_;subst ea_));subst ec_;clear en_));have GB25:=am gb25;have GG25:=am HG25;clear gb25 gl25 HG25;(first | simp only [add_plain] at hx251_0 | skip);obtain⟨hx25_0,hf25_0⟩:=Kd.R_celln 0 HO_5.out ((ji21) : Int) p25 q25;replace p25:=eq_true p25;replace q25:=eq_true q25;obtain⟨hy30_,hz30_⟩:=Kd.R_celln 0 HO_5.out ((ji21) : Int) (of_decide_eq_true za) (of_decide_eq_true za);have HP30:=Kd.R_putg HO_5.out ((ji21) : Int) (Int.tmod (IntKind.u64.wrap (x8_2 + (IntKind.u64.wrap ((rd x5_2 (ji21)) + (IntKind.u64.wrap ((rd l0_0 x22_1) * t252)))))) 1000000000)) |((with_reducible refine gate_store (t:=59) (p:=59) rfl ?_);(try (rw [drewN_self wr];generalize hq_ : World.drewN wr _ = wr;have n0_:=am (Kd.R_at hq_ HO_5.out);have n1_:=am (blk_at hq_ BK241.out);have n2_:=am (blk_at hq_ BK242.out);have n3_:=am (blk_at hq_ BK243.out);have n4_:=am (below_at hq_ HB.out);clear hq_ HO_5 BK241 BK242 BK243 HB;have HO_5:=n0_;have BK241:=n1_;have BK242:=n2_;have BK243:=n3_;have HB:=n4_;clear n0_ n1_ n2_ n3_ n4_;(try (obtain⟨hy30_,hz30_⟩:=Kd.R_celln 0 HO_5.out ((ji21) : Int) (of_decide_eq_true za) (of_decide_eq_true za)));(try (have HP30:=Kd.R_putg HO_5.out ((ji21) : Int) (Int.tmod (IntKind.u64.wrap (x8_2 + (IntKind.u64.wrap ((rd x5_2 (ji21)) + (IntKind.u64.wrap ((rd l0_0 x22_1) * t252)))))) 1000000000)))));refine store_event (t:=59) (p:=59) (v:=?vo_w31) (w1:=(wr.setCell ⟨go25,((ji21) : Int).toNat,none⟩ (.int .u64 (Int.tmod (IntKind.u64.wrap (x8_2 + (IntKind.u64.wrap ((rd x5_2 (ji21)) + (IntKind.u64.wrap ((rd l0_0 x22_1) * t252)))))) 1000000000)))) ?hg ?ho ?hn ?hr ?_;(case ho=>rfl);(case hg=>rfl);(case hn=>rfl);(case hr=>exact zh);intro w31 hw;have hg : wr.grownBy w31 (some go25):=(by rw [hw];exact HP30.2);have hp_ : Kd.R (Kd.int .u64) 59 w31 w.heap.size (fun _=>True) (.slice (some ⟨go25,0,none⟩) x5_2.length co29) y253:=(by rw [hw,Ny253.out];exact HP30.1);clear HP30;replace BK241:=am (blk_grown (zk BK241.out) hg (Kd.R_ne HO_5.out BK241.out (by decide)));replace BK242:=am (blk_grown (zk BK242.out) hg (Kd.R_ne HO_5.out BK242.out (by decide)));replace BK243:=am (blk_grown (zk BK243.out) hg (Kd.R_ne HO_5.out BK243.out (by decide)));replace HO_5:=am (hp_);replace HB:=am ((by rw [hw];exact below_set (HB.out) GB25.out : Below w.heap.size w w31));clear hg hw hp_)))
             go_roundg k2
             case measure=>have:=HK1.out;have:=HK2.out;omega
             case rel=>exact⟨(y253),(IntKind.u64.wrap (Int.tdiv (IntKind.u64.wrap (x8_2 + (IntKind.u64.wrap ((rd x5_2 (ji21)) + (IntKind.u64.wrap ((rd l0_0 x22_1) * t252)))))) 1000000000)),(wrap64 (x9_2 + 1)),(by first | rfl |(simp;done) |(simp only [← hji21] <;> (first | rfl | simp)) |(simp [*];done)),ze,H',⟨by have:=HK1.out;have:=HK2.out;omega⟩,⟨zR HO_5.out⟩,⟨zk BK241.out⟩,⟨zk BK242.out⟩,⟨zk BK243.out⟩,⟨zb⟩⟩
            ·rw [if_neg c23] at H
             exact absurd H (by simp)
           ·rw [if_neg c22] at H
            exact absurd H (by simp)
          ·rw [if_neg c20] at H
           have c20b0 : decide (x9_2 < (l1_0.length : Int)) = false:=decide_eq_false c20
           clear c20
           by_cases c32 : x8_2 > 0
           ·rw [if_pos c32] at H
            have c32b0 : decide (0 < x8_2) = true:=decide_eq_true c32
            clear c32
            obtain⟨ji33,hji33⟩ : ∃ j_ : Int,(wrap64 (x22_1 + x9_2)) = j_:=⟨_,rfl⟩
            replace H : (if 0≤(ji33) then(if (ji33) < (x5_2.length : Int) then((nat_digits_at.f l1_0 x9_2).bind fun t255=>(nat_number_times.l1 k2 (x5_2.set ((ji33) : Int).toNat (Int.tmod (IntKind.u64.wrap (x8_2 + (IntKind.u64.wrap ((rd x5_2 (ji33)) + (IntKind.u64.wrap ((rd l0_0 x22_1) * t255)))))) 1000000000)) x22_1 (rd l0_0 x22_1) (IntKind.u64.wrap (Int.tdiv (IntKind.u64.wrap (x8_2 + (IntKind.u64.wrap ((rd x5_2 (ji33)) + (IntKind.u64.wrap ((rd l0_0 x22_1) * t255)))))) 1000000000)) (wrap64 (x9_2 + 1)) l0_0 (l0_0.length : Int) x22_1 l1_0)) else(none)) else(none)) = some r:=by first |(rw [hji33] at H;exact H) |(simp only [hji33] at H ⊢;exact H)
            have hji33w : (IntKind.i64.wrap (x22_1 + x9_2)) = ji33:=(i64_w _).trans hji33
            by_cases c34 : 0≤(ji33)
            ·rw [if_pos c34] at H
             have c34b0 : decide (0≤(ji33)) = true:=decide_eq_true c34
             clear c34
             by_cases c35 : (ji33) < (x5_2.length : Int)
             ·rw [if_pos c35] at H
              have c35b0 : decide ((ji33) < (x5_2.length : Int)) = true:=decide_eq_true c35
              clear c35
              replace H:=Option.bind_eq_some_iff.mp H
              obtain⟨t255,A360,H⟩:=H
              try dsimp only at H
              have A36:=am A360
              clear A360
              obtain⟨y256,hy256⟩ : ∃ y_ : List Int,y_ = (x5_2.set ((ji33) : Int).toNat (Int.tmod (IntKind.u64.wrap (x8_2 + (IntKind.u64.wrap ((rd x5_2 (ji33)) + (IntKind.u64.wrap ((rd l0_0 x22_1) * t255)))))) 1000000000)):=⟨_,rfl⟩
              replace H : (nat_number_times.l1 k2 y256 x22_1 (rd l0_0 x22_1) (IntKind.u64.wrap (Int.tdiv (IntKind.u64.wrap (x8_2 + (IntKind.u64.wrap ((rd x5_2 (ji33)) + (IntKind.u64.wrap ((rd l0_0 x22_1) * t255)))))) 1000000000)) (wrap64 (x9_2 + 1)) l0_0 (l0_0.length : Int) x22_1 l1_0) = some r:=by first |(rw [hy256];with_reducible exact H) |(have H2_:=(Option.bind_some _ _).symm.trans H;rw [hy256];with_reducible exact H2_) |(have H2_:=(Option.bind_some _ _).symm.trans H;with_reducible exact H2_) | with_reducible exact H |(rw [hy256];exact H) | exact H
              have Ny256:=am hy256
              clear hy256
              have H':=am H
              clear H
              have hnb38:=NB242_241.out
              have hnc38:=NB241_242.out
              have hnb39:=NB242_243.out
              have hnc39:=NB243_242.out
              have hcz40_0 : wr.cell? ⟨gb242,0,none⟩ = some (.slice A1_0 l1_0.length c1_0):=(blk_cell BK242.out 0).trans rfl
              have hfz40_0:=blk_frozen BK242.out 0
              obtain⟨Ao41,co41,eo41⟩:=Kd.R_slice HO_5.out
              subst eo41
              have p254 : 0≤((ji33) : Int):=of_decide_eq_true za
              have q254 : (ji33) < (x5_2.length : Int):=of_decide_eq_true za
              obtain⟨ad254,e254,hx254_0⟩:=Kd.at_int (Kd.R_reads' HO_5.out).2.2 (ji33) p254 q254
              cases e254
              replace p254:=eq_true p254
              replace q254:=eq_true q254
              go_wp2_with (first |(go_at_call 79;(with_reducible refine(nat_digits_at.calls _ _ l1_0 x9_2 t255 _ ?side1 ?side2 A36.out).mono ?_);(case side1=>repeat (first | exact(Kd.C_below HR1_0.out HB.out) |(with_reducible refine Kd.C_alloc ?_ _) |(with_reducible refine Kd.C_drewN ?_ _) |(with_reducible refine Kd.C_drew ?_)));(case side2=>exact HC1_0.out);rintro e w' ⟨rfl,⟨nd,rfl⟩⟩;(try first | exact⟨rfl,_,World.drewN_drewN _ _ _⟩ | exact⟨rfl,_,Eq.trans (World.drewN_drewN _ _ _) (congrArg (World.drewN _) (Nat.add_assoc _ _ _))⟩);have p37 : 0≤((ji33) : Int):=of_decide_eq_true za;have q37 : ((ji33) : Int) < ((x5_2.length : Int) : Int):=of_decide_eq_true za;obtain⟨go37,co37,eo37,gb37,gl37,cl37,HG37⟩:=Kd.R_form HO_5.out (by omega);(first | cases eo37 |(injection eo37 with ea_ en_ ec_;(first | subst ea_ |(injection ea_ with ea_;subst ea_));subst ec_;clear en_));have GB37:=am gb37;have GG37:=am HG37;clear gb37 gl37 HG37;(first | simp only [add_plain] at hx254_0 | skip);obtain⟨hx37_0,hf37_0⟩:=Kd.R_celln 0 HO_5.out ((ji33) : Int) p37 q37;replace p37:=eq_true p37;replace q37:=eq_true q37;obtain⟨hy42_,hz42_⟩:=Kd.R_celln 0 HO_5.out ((ji33) : Int) (of_decide_eq_true za) (of_decide_eq_true za);have HP42:=Kd.R_putg HO_5.out ((ji33) : Int) (Int.tmod (IntKind.u64.wrap (x8_2 + (IntKind.u64.wrap ((rd x5_2 (ji33)) + (IntKind.u64.wrap ((rd l0_0 x22_1) * t255)))))) 1000000000)) |((with_reducible refine gate_store (t:=59) (p:=59) rfl ?_);(try (rw [drewN_self wr];generalize hq_ : World.drewN wr _ = wr;have n0_:=am (Kd.R_at hq_ HO_5.out);have n1_:=am (blk_at hq_ BK241.out);have n2_:=am (blk_at hq_ BK242.out);have n3_:=am (blk_at hq_ BK243.out);have n4_:=am (below_at hq_ HB.out);clear hq_ HO_5 BK241 BK242 BK243 HB;have HO_5:=n0_;have BK241:=n1_;have BK242:=n2_;have BK243:=n3_;have HB:=n4_;clear n0_ n1_ n2_ n3_ n4_;(try (obtain⟨hy42_,hz42_⟩:=Kd.R_celln 0 HO_5.out ((ji33) : Int) (of_decide_eq_true za) (of_decide_eq_true za)));(try (have HP42:=Kd.R_putg HO_5.out ((ji33) : Int) (Int.tmod (IntKind.u64.wrap (x8_2 + (IntKind.u64.wrap ((rd x5_2 (ji33)) + (IntKind.u64.wrap ((rd l0_0 x22_1) * t255)))))) 1000000000)))));refine store_event (t:=59) (p:=59) (v:=?vo_w43) (w1:=(wr.setCell ⟨go37,((ji33) : Int).toNat,none⟩ (.int .u64 (Int.tmod (IntKind.u64.wrap (x8_2 + (IntKind.u64.wrap ((rd x5_2 (ji33)) + (IntKind.u64.wrap ((rd l0_0 x22_1) * t255)))))) 1000000000)))) ?hg ?ho ?hn ?hr ?_;(case ho=>rfl);(case hg=>rfl);(case hn=>rfl);(case hr=>exact zh);intro w43 hw;have hg : wr.grownBy w43 (some go37):=(by rw [hw];exact HP42.2);have hp_ : Kd.R (Kd.int .u64) 59 w43 w.heap.size (fun _=>True) (.slice (some ⟨go37,0,none⟩) x5_2.length co41) y256:=(by rw [hw,Ny256.out];exact HP42.1);clear HP42;replace BK241:=am (blk_grown (zk BK241.out) hg (Kd.R_ne HO_5.out BK241.out (by decide)));replace BK242:=am (blk_grown (zk BK242.out) hg (Kd.R_ne HO_5.out BK242.out (by decide)));replace BK243:=am (blk_grown (zk BK243.out) hg (Kd.R_ne HO_5.out BK243.out (by decide)));replace HO_5:=am (hp_);replace HB:=am ((by rw [hw];exact below_set (HB.out) GB37.out : Below w.heap.size w w43));clear hg hw hp_))
              repeat (go_quiet (first |(go_at_call 79;(with_reducible refine(nat_digits_at.calls _ _ l1_0 x9_2 t255 _ ?side1 ?side2 A36.out).mono ?_);(case side1=>repeat (first | exact(Kd.C_below HR1_0.out HB.out) |(with_reducible refine Kd.C_alloc ?_ _) |(with_reducible refine Kd.C_drewN ?_ _) |(with_reducible refine Kd.C_drew ?_)));(case side2=>exact HC1_0.out);rintro e w' ⟨rfl,⟨nd,rfl⟩⟩;(try first | exact⟨rfl,_,World.drewN_drewN _ _ _⟩ | exact⟨rfl,_,Eq.trans (World.drewN_drewN _ _ _) (congrArg (World.drewN _) (Nat.add_assoc _ _ _))⟩);have p37 : 0≤((ji33) : Int):=of_decide_eq_true za;have q37 : ((ji33) : Int) < ((x5_2.length : Int) : Int):=of_decide_eq_true za;obtain⟨go37,co37,eo37,gb37,gl37,cl37,HG37⟩:=Kd.R_form HO_5.out (by omega);(first | cases eo37 |(injection eo37 with ea_ en_ ec_;(first | subst ea_ |(injection ea_ with ea_;subst ea_));subst ec_;clear en_));have GB37:=am gb37;have GG37:=am HG37;clear gb37 gl37 HG37;(first | simp only [add_plain] at hx254_0 | skip);obtain⟨hx37_0,hf37_0⟩:=Kd.R_celln 0 HO_5.out ((ji33) : Int) p37 q37;replace p37:=eq_true p37;replace q37:=eq_true q37;obtain⟨hy42_,hz42_⟩:=Kd.R_celln 0 HO_5.out ((ji33) : Int) (of_decide_eq_true za) (of_decide_eq_true za);have HP42:=Kd.R_putg HO_5.out ((ji33) : Int) (Int.tmod (IntKind.u64.wrap (x8_2 + (IntKind.u64.wrap ((rd x5_2 (ji33)) + (IntKind.u64.wrap ((rd l0_0 x22_1) * t255)))))) 1000000000)) |((with_reducible refine gate_store (t:=59) (p:=59) rfl ?_);(try (rw [drewN_self wr];generalize hq_ : World.drewN wr _ = wr;have n0_:=am (Kd.R_at hq_ HO_5.out);have n1_:=am (blk_at hq_ BK241.out);have n2_:=am (blk_at hq_ BK242.out);have n3_:=am (blk_at hq_ BK243.out);have n4_:=am (below_at hq_ HB.out);clear hq_ HO_5 BK241 BK242 BK243 HB;have HO_5:=n0_;have BK241:=n1_;have BK242:=n2_;have BK243:=n3_;have HB:=n4_;clear n0_ n1_ n2_ n3_ n4_;(try (obtain⟨hy42_,hz42_⟩:=Kd.R_celln 0 HO_5.out ((ji33) : Int) (of_decide_eq_true za) (of_decide_eq_true za)));(try (have HP42:=Kd.R_putg HO_5.out ((ji33) : Int) (Int.tmod (IntKind.u64.wrap (x8_2 + (IntKind.u64.wrap ((rd x5_2 (ji33)) + (IntKind.u64.wrap ((rd l0_0 x22_1) * t255)))))) 1000000000)))));refine store_event (t:=59) (p:=59) (v:=?vo_w43) (w1:=(wr.setCell ⟨go37,((ji33) : Int).toNat,none⟩ (.int .u64 (Int.tmod (IntKind.u64.wrap (x8_2 + (IntKind.u64.wrap ((rd x5_2 (ji33)) + (IntKind.u64.wrap ((rd l0_0 x22_1) * t255)))))) 1000000000)))) ?hg ?ho ?hn ?hr ?_;(case ho=>rfl);(case hg=>rfl);(case hn=>rfl);(case hr=>exact zh);intro w43 hw;have hg : wr.grownBy w43 (some go37):=(by rw [hw];exact HP42.2);have hp_ : Kd.R (Kd.int .u64) 59 w43 w.heap.size (fun _=>True) (.slice (some ⟨go37,0,none⟩) x5_2.length co41) y256:=(by rw [hw,Ny256.out];exact HP42.1);clear HP42;replace BK241:=am (blk_grown (zk BK241.out) hg (Kd.R_ne HO_5.out BK241.out (by decide)));replace BK242:=am (blk_grown (zk BK242.out) hg (Kd.R_ne HO_5.out BK242.out (by decide)));replace BK243:=am (blk_grown (zk BK243.out) hg (Kd.R_ne HO_5.out BK243.out (by decide)));replace HO_5:=am (hp_);replace HB:=am ((by rw [hw];exact below_set (HB.out) GB37.out : Below w.heap.size w w43));clear hg hw hp_));try go_wp2_with (first |(go_at_call 79;(with_reducible refine(nat_digits_at.calls _ _ l1_0 x9_2 t255 _ ?side1 ?side2 A36.out).mono ?_);(case side1=>repeat (first | exact(Kd.C_below HR1_0.out HB.out) |(with_reducible refine Kd.C_alloc ?_ _) |(with_reducible refine Kd.C_drewN ?_ _) |(with_reducible refine Kd.C_drew ?_)));(case side2=>exact HC1_0.out);rintro e w' ⟨rfl,⟨nd,rfl⟩⟩;(try first | exact⟨rfl,_,World.drewN_drewN _ _ _⟩ | exact⟨rfl,_,Eq.trans (World.drewN_drewN _ _ _) (congrArg (World.drewN _) (Nat.add_assoc _ _ _))⟩);have p37 : 0≤((ji33) : Int):=of_decide_eq_true za;have q37 : ((ji33) : Int) < ((x5_2.length : Int) : Int):=of_decide_eq_true za;obtain⟨go37,co37,eo37,gb37,gl37,cl37,HG37⟩:=Kd.R_form HO_5.out (by omega);(first | cases eo37 |(injection eo37 with ea_ en_ ec_;(first | subst ea_ |(injection ea_ with ea_;subst ea_));subst ec_;clear en_));have GB37:=am gb37;have GG37:=am HG37;clear gb37 gl37 HG37;(first | simp only [add_plain] at hx254_0 | skip);obtain⟨hx37_0,hf37_0⟩:=Kd.R_celln 0 HO_5.out ((ji33) : Int) p37 q37;replace p37:=eq_true p37;replace q37:=eq_true q37;obtain⟨hy42_,hz42_⟩:=Kd.R_celln 0 HO_5.out ((ji33) : Int) (of_decide_eq_true za) (of_decide_eq_true za);have HP42:=Kd.R_putg HO_5.out ((ji33) : Int) (Int.tmod (IntKind.u64.wrap (x8_2 + (IntKind.u64.wrap ((rd x5_2 (ji33)) + (IntKind.u64.wrap ((rd l0_0 x22_1) * t255)))))) 1000000000)) |((with_reducible refine gate_store (t:=59) (p:=59) rfl ?_);(try (rw [drewN_self wr];generalize hq_ : World.drewN wr _ = wr;have n0_:=am (Kd.R_at hq_ HO_5.out);have n1_:=am (blk_at hq_ BK241.out);have n2_:=am (blk_at hq_ BK242.out);have n3_:=am (blk_at hq_ BK243.out);have n4_:=am (below_at hq_ HB.out);clear hq_ HO_5 BK241 BK242 BK243 HB;have HO_5:=n0_;have BK241:=n1_;have BK242:=n2_;have BK243:=n3_;have HB:=n4_;clear n0_ n1_ n2_ n3_ n4_;(try (obtain⟨hy42_,hz42_⟩:=Kd.R_celln 0 HO_5.out ((ji33) : Int) (of_decide_eq_true za) (of_decide_eq_true za)));(try (have HP42:=Kd.R_putg HO_5.out ((ji33) : Int) (Int.tmod (IntKind.u64.wrap (x8_2 + (IntKind.u64.wrap ((rd x5_2 (ji33)) + (IntKind.u64.wrap ((rd l0_0 x22_1) * t255)))))) 1000000000)))));refine store_event (t:=59) (p:=59) (v:=?vo_w43) (w1:=(wr.setCell ⟨go37,((ji33) : Int).toNat,none⟩ (.int .u64 (Int.tmod (IntKind.u64.wrap (x8_2 + (IntKind.u64.wrap ((rd x5_2 (ji33)) + (IntKind.u64.wrap ((rd l0_0 x22_1) * t255)))))) 1000000000)))) ?hg ?ho ?hn ?hr ?_;(case ho=>rfl);(case hg=>rfl);(case hn=>rfl);(case hr=>exact zh);intro w43 hw;have hg : wr.grownBy w43 (some go37):=(by rw [hw];exact HP42.2);have hp_ : Kd.R (Kd.int .u64) 59 w43 w.heap.size (fun _=>True) (.slice (some ⟨go37,0,none⟩) x5_2.length co41) y256:=(by rw [hw,Ny256.out];exact HP42.1);clear HP42;replace BK241:=am (blk_grown (zk BK241.out) hg (Kd.R_ne HO_5.out BK241.out (by decide)));replace BK242:=am (blk_grown (zk BK242.out) hg (Kd.R_ne HO_5.out BK242.out (by decide)));replace BK243:=am (blk_grown (zk BK243.out) hg (Kd.R_ne HO_5.out BK243.out (by decide)));replace HO_5:=am (hp_);replace HB:=am ((by rw [hw];exact below_set (HB.out) GB37.out : Below w.heap.size w w43));clear hg hw hp_)))
              go_roundg k2
              case measure=>have:=HK1.out;have:=HK2.out;omega
              case rel=>exact⟨(y256),(IntKind.u64.wrap (Int.tdiv (IntKind.u64.wrap (x8_2 + (IntKind.u64.wrap ((rd x5_2 (ji33)) + (IntKind.u64.wrap ((rd l0_0 x22_1) * t255)))))) 1000000000)),(wrap64 (x9_2 + 1)),(by first | rfl |(simp;done) |(simp only [← hji33] <;> (first | rfl | simp)) |(simp [*];done)),ze,H',⟨by have:=HK1.out;have:=HK2.out;omega⟩,⟨zR HO_5.out⟩,⟨zk BK241.out⟩,⟨zk BK242.out⟩,⟨zk BK243.out⟩,⟨zb⟩⟩
             ·rw [if_neg c35] at H
              exact absurd H (by simp)
            ·rw [if_neg c34] at H
             exact absurd H (by simp)
           ·rw [if_neg c32] at H
            have c32b0 : decide (0 < x8_2) = false:=decide_eq_false c32
            clear c32
            have H':=am H
            clear H
            have hnb44:=NB242_241.out
            have hnc44:=NB241_242.out
            have hnb45:=NB242_243.out
            have hnc45:=NB243_242.out
            have hcz46_0 : wr.cell? ⟨gb242,0,none⟩ = some (.slice A1_0 l1_0.length c1_0):=(blk_cell BK242.out 0).trans rfl
            have hfz46_0:=blk_frozen BK242.out 0
            go_wp2
            repeat (go_quiet (fail);try go_wp2)
            go_roundg k2
            case measure=>have:=HK1.out;have:=HK2.out;omega
            case rel=>exact⟨(x5_2),(wrap64 (x22_1 + 1)),ze,H',⟨by have:=HK1.out;have:=HK2.out;omega⟩,⟨zR HO_5.out⟩,⟨zk BK241.out⟩,⟨zk BK242.out⟩,⟨zk BK243.out⟩,⟨zb⟩⟩
       ·rw [if_neg c19] at H
        exact absurd H (by simp)
      ·rw [if_neg c18] at H
       exact absurd H (by simp)
     ·rw [if_neg c17] at H
      have c17b0 : decide (x22_1 < (l0_0.length : Int)) = false:=decide_eq_false c17
      clear c17
      replace H:=Option.bind_eq_some_iff.mp H
      obtain⟨t247,A470,H⟩:=H
      try dsimp only at H
      have A47:=am A470
      clear A470
      obtain rfl:=Option.some.inj H
      obtain⟨Ao48,co48,eo48⟩:=Kd.R_slice HO_5.out
      subst eo48
      go_wp2_with (first |(go_at_call 57;(with_reducible refine(nat_carried.calls k1 _ _ x5_1 t247 _ ?side1 ?side2 A47.out).mono ?_);(case side1=>exact zC (Kd.R_reads' HO_5.out).2.2);(case side2=>exact(Kd.R_reads' HO_5.out).2.1);rintro e w49 ⟨v248,rfl,ho0,hb⟩;have HO249:=am (Kd.R_lower (Kd.R_new' ho0 (Kd.R_lt (zR HO_5.out))) (below_size zb));replace HO_5:=re HO_5 (Kd.R_base ho0) hb;replace BK241:=kb BK241 hb;replace BK242:=kb BK242 hb;replace BK243:=kb BK243 hb;replace HB:=am (below_step zb hb);(try clear hb);(try clear ho0);obtain⟨Ao50,co50,eo50⟩:=Kd.R_slice HO249.out;subst eo50;have hnb51:=NB243_241.out;have hnc51:=NB241_243.out;have hnb52:=NB243_242.out;have hnc52:=NB242_243.out;have hcz53_0 : w49.cell? ⟨gb243,0,none⟩ = some (.slice none 0 0):=(blk_cell BK243.out 0).trans rfl;have hfz53_0:=blk_frozen BK243.out 0))
      repeat (go_quiet (first |(go_at_call 57;(with_reducible refine(nat_carried.calls k1 _ _ x5_1 t247 _ ?side1 ?side2 A47.out).mono ?_);(case side1=>exact zC (Kd.R_reads' HO_5.out).2.2);(case side2=>exact(Kd.R_reads' HO_5.out).2.1);rintro e w49 ⟨v248,rfl,ho0,hb⟩;have HO249:=am (Kd.R_lower (Kd.R_new' ho0 (Kd.R_lt (zR HO_5.out))) (below_size zb));replace HO_5:=re HO_5 (Kd.R_base ho0) hb;replace BK241:=kb BK241 hb;replace BK242:=kb BK242 hb;replace BK243:=kb BK243 hb;replace HB:=am (below_step zb hb);(try clear hb);(try clear ho0);obtain⟨Ao50,co50,eo50⟩:=Kd.R_slice HO249.out;subst eo50;have hnb51:=NB243_241.out;have hnc51:=NB241_243.out;have hnb52:=NB243_242.out;have hnc52:=NB242_243.out;have hcz53_0 : w49.cell? ⟨gb243,0,none⟩ = some (.slice none 0 0):=(blk_cell BK243.out 0).trans rfl;have hfz53_0:=blk_frozen BK243.out 0));try go_wp2_with (first |(go_at_call 57;(with_reducible refine(nat_carried.calls k1 _ _ x5_1 t247 _ ?side1 ?side2 A47.out).mono ?_);(case side1=>exact zC (Kd.R_reads' HO_5.out).2.2);(case side2=>exact(Kd.R_reads' HO_5.out).2.1);rintro e w49 ⟨v248,rfl,ho0,hb⟩;have HO249:=am (Kd.R_lower (Kd.R_new' ho0 (Kd.R_lt (zR HO_5.out))) (below_size zb));replace HO_5:=re HO_5 (Kd.R_base ho0) hb;replace BK241:=kb BK241 hb;replace BK242:=kb BK242 hb;replace BK243:=kb BK243 hb;replace HB:=am (below_step zb hb);(try clear hb);(try clear ho0);obtain⟨Ao50,co50,eo50⟩:=Kd.R_slice HO249.out;subst eo50;have hnb51:=NB243_241.out;have hnc51:=NB241_243.out;have hnb52:=NB243_242.out;have hnc52:=NB242_243.out;have hcz53_0 : w49.cell? ⟨gb243,0,none⟩ = some (.slice none 0 0):=(blk_cell BK243.out 0).trans rfl;have hfz53_0:=blk_frozen BK243.out 0)))
      refine bodyPost_ret (results_cell_row rfl _ _ gb243 83 #[.slice Ao50 t247.length co50] (0,0) _ rfl (by refine zk ?_;refine blk_put (cs:=#[.slice none 0 0]) ?_ 0 _ rfl;refine zk ?_;exact BK243.out) Tryz.underlying83 rfl (by kernel_rfl)) rfl ?_
      exact⟨_,by first | rfl |(simp [errW_none,errW_some] <;> rfl) |(simp only [← hji3];first | rfl |(simp [errW_none,errW_some] <;> rfl)) |(simp [*,errW_none,errW_some] <;> rfl),by refine zR ?_;exact Kd.R_mono (Kd.R_far (p:=⟨gb243,0,none⟩) (Kd.R_types HO249.out BK243.out (by decide)) (fun _ hk=>hk.2) (.slice Ao50 t247.length co50)) (fun _ hk=>trivial),zb⟩
  ·rw [if_neg c5] at H
   exact absurd H (by simp)
 ·rw [if_neg c4] at H
  exact absurd H (by simp)

/-! ### nat_number_scaled: function 95 -/
def nat_number_scaled.f (k : Nat) (l0_0 : List Int) (a1 : Int) : Option (List Int):=(nat_carried.f k (([a1] : List Int))).bind fun t262=>((nat_number_times.f k l0_0 t262).bind fun t265=>(some t265))
theorem nat_number_scaled.calls (k : Nat) (A0_0 : Option Addr) (c0_0 : Nat) (l0_0 : List Int) (a1 : Int) (r : List Int) (w : World) (hr0_0 : Kd.C (Kd.int .u64) w A0_0 l0_0.length l0_0) (hc0_0 : l0_0.length≤c0_0) (h : nat_number_scaled.f k l0_0 a1 = some r) :
  Calls Tryz.prog 95 #[.agg #[.slice A0_0 l0_0.length c0_0],.int .u64 a1] w fun e w'=>∃ v0_ : Value,e = .returned (.agg #[v0_])∧Kd.R (Kd.int .u64) 59 w' w.heap.size (fun _=>True) v0_ r∧Below w.heap.size w w':=by
 have hu83:=Tryz.underlying83
 have HR0_0:=am hr0_0
 have HC0_0:=am hc0_0
 clear hr0_0 hc0_0
 have HB:=am (Below.refl w.heap.size w)
 have H : ((nat_carried.f k (([a1] : List Int))).bind fun t262=>((nat_number_times.f k l0_0 t262).bind fun t265=>(some t265))) = some r:=h
 clear h
 obtain⟨y259,hy259⟩ : ∃ y_ : List Int,y_ = (([a1] : List Int)):=⟨_,rfl⟩
 replace H : ((nat_carried.f k y259).bind fun t262=>((nat_number_times.f k l0_0 t262).bind fun t265=>(some t265))) = some r:=by first |(rw [hy259];with_reducible exact H) |(have H2_:=(Option.bind_some _ _).symm.trans H;rw [hy259];with_reducible exact H2_) |(have H2_:=(Option.bind_some _ _).symm.trans H;with_reducible exact H2_) | with_reducible exact H |(rw [hy259];exact H) | exact H
 have Ny259:=am hy259
 clear hy259
 replace H:=Option.bind_eq_some_iff.mp H
 obtain⟨t262,A30,H⟩:=H
 try dsimp only at H
 have A3:=am A30
 clear A30
 replace H:=Option.bind_eq_some_iff.mp H
 obtain⟨t265,A40,H⟩:=H
 try dsimp only at H
 have A4:=am A40
 clear A40
 obtain rfl:=Option.some.inj H
 go_enter Tryz.func95,Tryz.ntmps95
 try go_wp2_with (first |((with_reducible refine gate_dst (N:=2) rfl ?_);refine box_event ?hg (N:=2) ?hd (cs:=#[.slice A0_0 l0_0.length c0_0]) (t:=83) ?hr ?_;(case hd=>rfl);(case hg=>rfl);(case hr=>exact zh);intro gb257 hg w5 hbox hb;have BK257:=am (hbox);have GW257:=gw w hg;have GE257:=gw w hg;replace HB:=am (below_step zb hb);clear hb hbox hg) |((with_reducible refine gate_dst (N:=4) rfl ?_);refine box_event ?hg (N:=4) ?hd (cs:=#[.slice none 0 0]) (t:=83) ?hr ?_;(case hd=>rfl);(case hg=>rfl);(case hr=>exact zh);intro gb258 hg w6 hbox hb;have BK258:=am (hbox);have GW258:=gw w hg;have GE258:=gw w hg;replace HB:=am (below_step zb hb);have NB257_258:=nl BK257 hg;have NB258_257:=nr BK257 hg;replace BK257:=kb BK257 hb;clear hb hbox hg))
 replace BK257:=am (blk_drew BK257.out)
 replace BK258:=am (blk_drew BK258.out)
 replace HB:=am (below_drew1 HB.out)
 refine start_ (n:=6) (S:=fun w'=>w'.cell? ⟨gb257,0,none⟩ = some (.slice A0_0 l0_0.length c0_0)) (ds:=[]) #[ff,ff,ff,ff,ff,ff] (by kernel_rfl) rfl rfl ((blk_cell BK257.out 0).trans rfl) (fun hHeld=>?_)
 generalize w6.drew = w7 at BK257 BK258 HB hHeld ⊢
 refine pu (i:=1) (N:=some 6) #[ff,tt,ff,ff,ff,ff] (by kernel_rfl) ?_
 refine take_ (i:=0) (N:=some 5) (v:=?_) (a':=?_) #[tt,tt,ff,ff,ff,ff] rfl rfl (by kernel_rfl) (fun _ _ _ h=>h) (Or.inl ⟨by rfl,?_⟩) hHeld ?_ ?_
 rotate_left
 ·intro w' s0
  go_simp
  with_reducible rfl
 rotate_left
 ·simp only [Act.put,sA,sZ,sS,i64_w,i32_w]
  rfl
 refine one_ (i:=2) (N:=some 7) #[tt,tt,tt,ff,ff,ff] rfl rfl (by kernel_rfl) (by decide) (fun K hK=>?_)
 refine Kd.R_lit_step (Kd.int .u64) _ 59 ?hg (N:=7) ?hd (xs:=([a1] : List Int)) (inner:=[.int .u64 a1]) (ok:=fun _=>True) (okp:=fun _=>True) ?hr ?hp (fun _ hk=>hk) trivial (Below.refl _ _) (Nat.le_refl _) (by simp) ?_;(case hd=>rfl);(case hg=>rfl);(case hr=>exact zh);(case hp=>exact(Reps.one (show Kd.M (Kd.int .u64) _ _ _ a1 [.int .u64 a1] from rfl) (Reps.none _ _)))
 intro v260 w8 ho9 hb hg_ hnew_
 clear hg_ hnew_
 (first | rw [← Ny259.out] at ho9 |(simp only [Int.reduceToNat] at ho9;rw [← Ny259.out] at ho9))
 have HO261:=am (Kd.R_lower ho9 (below_size zb))
 replace BK257:=kb BK257 hb
 replace BK258:=kb BK258 hb
 replace HB:=am (below_step zb hb)
 clear hb ho9
 obtain⟨Ao10,co10,eo10⟩:=Kd.R_slice HO261.out
 (first | subst eo10 |(injection eo10 with f1_ f2_ f3_;have f4_:=f1_.symm;have f5_:=f3_.symm;clear f1_ f2_ f3_;subst f4_;subst f5_))
 refine hK.out _ _ ((blk_cell BK257.out 0).trans rfl) (fun hHeld=>?_)
 clear hK K
 refine norm_ (a':=?_) ?_ ?_
 rotate_left
 ·show Act.put _ (some 7) _ = _
  simp only [Act.put,sA,sZ,sS,i64_w,i32_w]
  rfl
 refine one_ (i:=3) (N:=some 8) #[tt,tt,tt,tt,ff,ff] rfl rfl (by kernel_rfl) (by decide) (fun K hK=>?_)
 refine goes_ Tryz.func57 (by kernel_rfl) rfl #[.slice Ao10 y259.length co10] (by rfl) rfl rfl zl ?_
 with_reducible refine(nat_carried.calls k _ _ y259 t262 _ ?side1 ?side2 A3.out).mono ?_
 (case side1=>exact zC (Kd.R_reads' HO261.out).2.2)
 (case side2=>exact(Kd.R_reads' HO261.out).2.1)
 rintro e w11 ⟨v263,rfl,ho0,hb⟩
 refine⟨_,rfl,?_⟩
 have HO264:=am (Kd.R_lower (Kd.R_new' ho0 (Kd.R_lt (zR HO261.out))) (below_size zb))
 replace HO261:=re HO261 (Kd.R_base ho0) hb
 replace BK257:=kb BK257 hb
 replace BK258:=kb BK258 hb
 replace HB:=am (below_step zb hb)
 (try clear hb)
 (try clear hb2)
 (try clear hk)
 (try clear hi)
 (try clear ho0)
 obtain⟨Ao12,co12,eo12⟩:=Kd.R_slice HO264.out
 (first | subst eo12 |(injection eo12 with f1_ f2_ f3_;have f4_:=f1_.symm;have f5_:=f3_.symm;clear f1_ f2_ f3_;subst f4_;subst f5_))
 refine hK.out _ _ ((blk_cell BK257.out 0).trans rfl) (fun hHeld=>?_)
 clear hK K
 refine norm_ (a':=?_) ?_ ?_
 rotate_left
 ·show Act.put _ (some 8) _ = _
  simp only [Act.put,sA,sZ,sS,i64_w,i32_w]
  rfl
 refine one_ (i:=4) (N:=some 9) #[tt,tt,tt,tt,tt,ff] rfl rfl (by kernel_rfl) (by decide) (fun K hK=>?_)
 refine goes_ Tryz.func93 (by kernel_rfl) rfl #[.agg #[.slice A0_0 l0_0.length c0_0],.agg #[.slice Ao12 t262.length co12]] (by rfl) rfl rfl zl ?_
 with_reducible refine(nat_number_times.calls k _ _ l0_0 _ _ t262 t265 _ ?side1 ?side2 ?side3 ?side4 A4.out).mono ?_
 (case side1=>repeat (first | exact(Kd.C_below HR0_0.out HB.out) |(with_reducible refine Kd.C_alloc ?_ _) |(with_reducible refine Kd.C_drewN ?_ _) |(with_reducible refine Kd.C_drew ?_)))
 (case side2=>exact HC0_0.out)
 (case side3=>exact zC (Kd.R_reads' HO264.out).2.2)
 (case side4=>exact(Kd.R_reads' HO264.out).2.1)
 rintro e w13 ⟨v266,rfl,ho0,hb⟩
 refine⟨_,rfl,?_⟩
 have HO267:=am (Kd.R_lower (Kd.R_new' (Kd.R_new' ho0 (Kd.R_lt (zR HO261.out))) (Kd.R_lt (zR HO264.out))) (below_size zb))
 replace HO261:=re HO261 (Kd.R_base ho0) hb
 replace HO264:=re HO264 (Kd.R_base ho0) hb
 replace BK257:=kb BK257 hb
 replace BK258:=kb BK258 hb
 replace HB:=am (below_step zb hb)
 (try clear hb)
 (try clear hb2)
 (try clear hk)
 (try clear hi)
 (try clear ho0)
 obtain⟨Ao14,co14,eo14⟩:=Kd.R_slice HO267.out
 (first | subst eo14 |(injection eo14 with f1_ f2_ f3_;have f4_:=f1_.symm;have f5_:=f3_.symm;clear f1_ f2_ f3_;subst f4_;subst f5_))
 refine hK.out _ _ ((blk_cell BK257.out 0).trans rfl) (fun hHeld=>?_)
 clear hK K
 refine norm_ (a':=?_) ?_ ?_
 rotate_left
 ·show Act.put _ (some 9) _ = _
  simp only [Act.put,sA,sZ,sS,i64_w,i32_w]
  rfl
 refine one_ (i:=5) (N:=none) #[tt,tt,tt,tt,tt,tt] rfl rfl (by kernel_rfl) (by decide) (fun K hK=>?_)
 have hs15 : w13.cell? ⟨gb258,0,none⟩ = some (.slice none 0 0):=(blk_cell BK258.out 0).trans rfl
 have hfs15:=blk_frozen BK258.out 0
 have hns15_0:=NB257_258.out
 have hms15_0:=NB258_257.out
 refine skip_ (w1:=?_) (by rfl) rfl ?_ ?_
 rotate_left
 ·go_simp
  rfl
 refine hK.out _ _ (((cell_far (p:=⟨gb258,_,none⟩) NB257_258.out _).trans (hHeld))) (fun hHeld=>?_)
 clear hK K
 refine done_ (by kernel_rfl) ?_
 try go_wp2
 refine bodyPost_ret (results_cell_row rfl _ _ gb258 83 #[.slice Ao14 t265.length co14] (0,0) _ rfl (by refine zk ?_;refine blk_put (cs:=#[.slice none 0 0]) ?_ 0 _ rfl;refine zk ?_;exact BK258.out) Tryz.underlying83 rfl (by kernel_rfl)) rfl ?_
 exact⟨_,zf,by refine zR ?_;exact Kd.R_mono (Kd.R_far (p:=⟨gb258,0,none⟩) (Kd.R_types HO267.out BK258.out (by decide)) (fun _ hk=>hk.2) (.slice Ao14 t265.length co14)) (fun _ hk=>trivial),zb⟩

/-! ### nat_number_digit: function 94 -/
def nat_number_digit.l0 : Nat→Int→Int→List Int→List Int→Option (Int)
 | 0,_,_,_,_=>none
 | k + 1,x5,x6,x269000,x270000=>if x5 < x6 then((nat_number_scaled.f k x270000 (IntKind.u64.wrap (Int.tdiv (IntKind.u64.wrap ((IntKind.u64.wrap (x5 + x6)) + 1)) 2))).bind fun t270=>((nat_number_compare.f k t270 x269000).bind fun t273=>(if t273≤0 then(nat_number_digit.l0 k (IntKind.u64.wrap (Int.tdiv (IntKind.u64.wrap ((IntKind.u64.wrap (x5 + x6)) + 1)) 2)) x6 x269000 x270000) else(nat_number_digit.l0 k x5 (IntKind.u64.wrap ((IntKind.u64.wrap (Int.tdiv (IntKind.u64.wrap ((IntKind.u64.wrap (x5 + x6)) + 1)) 2)) - 1)) x269000 x270000)))) else(some x5)
def nat_number_digit.f (k : Nat) (l0_0 : List Int) (l1_0 : List Int) : Option (Int):=nat_number_digit.l0 k 0 999999999 l0_0 l1_0
theorem nat_number_digit.calls (k : Nat) (A0_0 : Option Addr) (c0_0 : Nat) (l0_0 : List Int) (A1_0 : Option Addr) (c1_0 : Nat) (l1_0 : List Int) (r : Int) (w : World) (hr0_0 : Kd.C (Kd.int .u64) w A0_0 l0_0.length l0_0) (hc0_0 : l0_0.length≤c0_0) (hr1_0 : Kd.C (Kd.int .u64) w A1_0 l1_0.length l1_0) (hc1_0 : l1_0.length≤c1_0) (h : nat_number_digit.f k l0_0 l1_0 = some r) :
  Calls Tryz.prog 94 #[.agg #[.slice A0_0 l0_0.length c0_0],.agg #[.slice A1_0 l1_0.length c1_0]] w fun e w'=>e = .returned (.int .u64 r)∧Below w.heap.size w w':=by
 have hu83:=Tryz.underlying83
 have HR0_0:=am hr0_0
 have HC0_0:=am hc0_0
 clear hr0_0 hc0_0
 have HR1_0:=am hr1_0
 have HC1_0:=am hc1_0
 clear hr1_0 hc1_0
 have HB:=am (Below.refl w.heap.size w)
 have H : (nat_number_digit.l0 k 0 999999999 l0_0 l1_0) = some r:=h
 clear h
 have H':=am H
 clear H
 go_enter Tryz.func94,Tryz.ntmps94
 go_wp2_with (first |((with_reducible refine gate_dst (N:=2) rfl ?_);refine box_event ?hg (N:=2) ?hd (cs:=#[.slice A0_0 l0_0.length c0_0]) (t:=83) ?hr ?_;(case hd=>rfl);(case hg=>rfl);(case hr=>exact zh);intro gb268 hg w3 hbox hb;have BK268:=am (hbox);have GW268:=gw w hg;have GE268:=gw w hg;replace HB:=am (below_step zb hb);clear hb hbox hg) |((with_reducible refine gate_dst (N:=3) rfl ?_);refine box_event ?hg (N:=3) ?hd (cs:=#[.slice A1_0 l1_0.length c1_0]) (t:=83) ?hr ?_;(case hd=>rfl);(case hg=>rfl);(case hr=>exact zh);intro gb269 hg w4 hbox hb;have BK269:=am (hbox);have GW269:=gw w hg;have GE269:=gw w hg;replace HB:=am (below_step zb hb);have NB268_269:=nl BK268 hg;have NB269_268:=nr BK268 hg;replace BK268:=kb BK268 hb;clear hb hbox hg))
 go_loopg [5,6] k (fun kq v5 v6 w'=>∃ (x5_1 : Int) (x6_1 : Int),v5 = .int .u64 x5_1∧v6 = .int .u64 x6_1∧Aside0 (nat_number_digit.l0 kq x5_1 x6_1 l0_0 l1_0 = some r)∧Aside0 (kq≤k)∧Aside0 (w'.heap[gb268]? = some (.cells #[(.slice A0_0 l0_0.length c0_0)] 83 (0,0)))∧Aside0 (w'.heap[gb269]? = some (.cells #[(.slice A1_0 l1_0.length c1_0)] 83 (0,0)))∧Aside0 (Below w.heap.size w w'))
 case atStart=>exact⟨(0),(999999999),ze,ze,H',⟨Nat.le_refl _⟩,⟨zk BK268.out⟩,⟨zk BK269.out⟩,⟨zb⟩⟩
 case round=>
  clear H'
  try clear c1
  try clear p2
  obtain⟨x5_1,x6_1,rfl,rfl,HA,HK1,BK268,BK269,HB⟩:=hrel
  cases gk with
  | zero=>exact absurd HA.out (by simp [nat_number_digit.l0])
  | succ k1=>
   have H:=HA.out
   clear HA
   simp only [nat_number_digit.l0] at H
   by_cases c5 : x5_1 < x6_1
   ·rw [if_pos c5] at H
    have c5b0 : decide (x5_1 < x6_1) = true:=decide_eq_true c5
    clear c5
    replace H:=Option.bind_eq_some_iff.mp H
    obtain⟨t270,A60,H⟩:=H
    try dsimp only at H
    have A6:=am A60
    clear A60
    replace H:=Option.bind_eq_some_iff.mp H
    obtain⟨t273,A70,H⟩:=H
    try dsimp only at H
    have A7:=am A70
    clear A70
    by_cases c8 : t273≤0
    ·rw [if_pos c8] at H
     have c8b0 : decide (t273≤0) = true:=decide_eq_true c8
     clear c8
     have H':=am H
     clear H
     try go_wp2
     replace BK268:=am (blk_drew BK268.out)
     replace BK269:=am (blk_drew BK269.out)
     replace HB:=am (below_drew1 HB.out)
     refine start_ (n:=6) (S:=fun w'=>w'.cell? ⟨gb269,0,none⟩ = some (.slice A1_0 l1_0.length c1_0)∧w'.cell? ⟨gb268,0,none⟩ = some (.slice A0_0 l0_0.length c0_0)) (ds:=[]) #[ff,ff,ff,ff,ff,ff] (by kernel_rfl) rfl rfl ⟨(blk_cell BK269.out 0).trans rfl,(blk_cell BK268.out 0).trans rfl⟩ (fun hHeld=>?_)
     generalize wr.drew = w9 at BK268 BK269 HB hHeld ⊢
     refine pu (i:=1) (N:=some 17) #[ff,tt,ff,ff,ff,ff] (by kernel_rfl) ?_
     refine take_ (i:=0) (N:=some 16) (v:=?_) (a':=?_) #[tt,tt,ff,ff,ff,ff] rfl rfl (by kernel_rfl) (fun _ _ _ h=>h) (Or.inl ⟨by rfl,?_⟩) hHeld ?_ ?_
     rotate_left
     ·rintro w' ⟨s0,s1⟩
      go_simp
      with_reducible rfl
     rotate_left
     ·simp only [Act.put,sA,sZ,sS,i64_w,i32_w]
      rfl
     refine take_ (i:=3) (N:=some 19) (v:=?_) (a':=?_) #[tt,tt,ff,tt,ff,ff] rfl rfl (by kernel_rfl) (fun _ _ _ h=>h) (Or.inl ⟨by rfl,?_⟩) hHeld ?_ ?_
     rotate_left
     ·rintro w' ⟨s0,s1⟩
      go_simp
      with_reducible rfl
     rotate_left
     ·simp only [Act.put,sA,sZ,sS,i64_w,i32_w]
      rfl
     refine one_ (i:=2) (N:=some 18) #[tt,tt,tt,tt,ff,ff] rfl rfl (by kernel_rfl) (by decide) (fun K hK=>?_)
     refine goes_ Tryz.func95 (by kernel_rfl) rfl #[.agg #[.slice A1_0 l1_0.length c1_0],.int .u64 (IntKind.u64.wrap (Int.tdiv (IntKind.u64.wrap ((IntKind.u64.wrap (x5_1 + x6_1)) + 1)) 2))] (by rfl) rfl rfl zl ?_
     with_reducible refine(nat_number_scaled.calls k1 _ _ l1_0 (IntKind.u64.wrap (Int.tdiv (IntKind.u64.wrap ((IntKind.u64.wrap (x5_1 + x6_1)) + 1)) 2)) t270 _ ?side1 ?side2 A6.out).mono ?_
     (case side1=>repeat (first | exact(Kd.C_below HR1_0.out HB.out) |(with_reducible refine Kd.C_alloc ?_ _) |(with_reducible refine Kd.C_drewN ?_ _) |(with_reducible refine Kd.C_drew ?_)))
     (case side2=>exact HC1_0.out)
     rintro e w10 ⟨v271,rfl,ho0,hb⟩
     refine⟨_,rfl,?_⟩
     have HO272:=am (Kd.R_lower ho0 (below_size zb))
     replace BK268:=kb BK268 hb
     replace BK269:=kb BK269 hb
     replace HB:=am (below_step zb hb)
     (try clear hb)
     (try clear hb2)
     (try clear hk)
     (try clear hi)
     (try clear ho0)
     obtain⟨Ao11,co11,eo11⟩:=Kd.R_slice HO272.out
     (first | subst eo11 |(injection eo11 with f1_ f2_ f3_;have f4_:=f1_.symm;have f5_:=f3_.symm;clear f1_ f2_ f3_;subst f4_;subst f5_))
     refine hK.out _ _ ⟨(blk_cell BK269.out 0).trans rfl,(blk_cell BK268.out 0).trans rfl⟩ (fun hHeld=>?_)
     clear hK K
     refine norm_ (a':=?_) ?_ ?_
     rotate_left
     ·show Act.put _ (some 18) _ = _
      simp only [Act.put,sA,sZ,sS,i64_w,i32_w]
      rfl
     refine one_ (i:=4) (N:=some 20) #[tt,tt,tt,tt,tt,ff] rfl rfl (by kernel_rfl) (by decide) (fun K hK=>?_)
     refine goes_ Tryz.func88 (by kernel_rfl) rfl #[.agg #[.slice Ao11 t270.length co11],.agg #[.slice A0_0 l0_0.length c0_0]] (by rfl) rfl rfl zl ?_
     with_reducible refine(nat_number_compare.calls k1 _ _ t270 _ _ l0_0 t273 _ ?side1 ?side2 ?side3 ?side4 A7.out).mono ?_
     (case side1=>exact zC (Kd.R_reads' HO272.out).2.2)
     (case side2=>exact(Kd.R_reads' HO272.out).2.1)
     (case side3=>repeat (first | exact(Kd.C_below HR0_0.out HB.out) |(with_reducible refine Kd.C_alloc ?_ _) |(with_reducible refine Kd.C_drewN ?_ _) |(with_reducible refine Kd.C_drew ?_)))
     (case side4=>exact HC0_0.out)
     rintro e w12 ⟨rfl,hb⟩
     refine⟨_,rfl,?_⟩
     replace HO272:=rb HO272 hb
     replace BK268:=kb BK268 hb
     replace BK269:=kb BK269 hb
     replace HB:=am (below_step zb hb)
     (try clear hb)
     (try clear hb2)
     (try clear hk)
     (try clear hi)
     refine hK.out _ _ ⟨(blk_cell BK269.out 0).trans rfl,(blk_cell BK268.out 0).trans rfl⟩ (fun hHeld=>?_)
     clear hK K
     refine norm_ (a':=?_) ?_ ?_
     rotate_left
     ·show Act.put _ (some 20) _ = _
      simp only [Act.put,sA,sZ,sS,i64_w,i32_w]
      rfl
     refine pu (i:=5) (N:=some 21) #[tt,tt,tt,tt,tt,tt] (by kernel_rfl) ?_
     refine done_ (by kernel_rfl) ?_
     try go_wp2
     go_roundg k1
     case measure=>have:=HK1.out;omega
     case rel=>exact⟨(IntKind.u64.wrap (Int.tdiv (IntKind.u64.wrap ((IntKind.u64.wrap (x5_1 + x6_1)) + 1)) 2)),(x6_1),ze,ze,H',⟨by have:=HK1.out;omega⟩,⟨zk BK268.out⟩,⟨zk BK269.out⟩,⟨zb⟩⟩
    ·rw [if_neg c8] at H
     have c8b0 : decide (t273≤0) = false:=decide_eq_false c8
     clear c8
     have H':=am H
     clear H
     try go_wp2
     replace BK268:=am (blk_drew BK268.out)
     replace BK269:=am (blk_drew BK269.out)
     replace HB:=am (below_drew1 HB.out)
     refine start_ (n:=6) (S:=fun w'=>w'.cell? ⟨gb269,0,none⟩ = some (.slice A1_0 l1_0.length c1_0)∧w'.cell? ⟨gb268,0,none⟩ = some (.slice A0_0 l0_0.length c0_0)) (ds:=[]) #[ff,ff,ff,ff,ff,ff] (by kernel_rfl) rfl rfl ⟨(blk_cell BK269.out 0).trans rfl,(blk_cell BK268.out 0).trans rfl⟩ (fun hHeld=>?_)
     generalize wr.drew = w13 at BK268 BK269 HB hHeld ⊢
     refine pu (i:=1) (N:=some 17) #[ff,tt,ff,ff,ff,ff] (by kernel_rfl) ?_
     refine take_ (i:=0) (N:=some 16) (v:=?_) (a':=?_) #[tt,tt,ff,ff,ff,ff] rfl rfl (by kernel_rfl) (fun _ _ _ h=>h) (Or.inl ⟨by rfl,?_⟩) hHeld ?_ ?_
     rotate_left
     ·rintro w' ⟨s0,s1⟩
      go_simp
      with_reducible rfl
     rotate_left
     ·simp only [Act.put,sA,sZ,sS,i64_w,i32_w]
      rfl
     refine take_ (i:=3) (N:=some 19) (v:=?_) (a':=?_) #[tt,tt,ff,tt,ff,ff] rfl rfl (by kernel_rfl) (fun _ _ _ h=>h) (Or.inl ⟨by rfl,?_⟩) hHeld ?_ ?_
     rotate_left
     ·rintro w' ⟨s0,s1⟩
      go_simp
      with_reducible rfl
     rotate_left
     ·simp only [Act.put,sA,sZ,sS,i64_w,i32_w]
      rfl
     refine one_ (i:=2) (N:=some 18) #[tt,tt,tt,tt,ff,ff] rfl rfl (by kernel_rfl) (by decide) (fun K hK=>?_)
     refine goes_ Tryz.func95 (by kernel_rfl) rfl #[.agg #[.slice A1_0 l1_0.length c1_0],.int .u64 (IntKind.u64.wrap (Int.tdiv (IntKind.u64.wrap ((IntKind.u64.wrap (x5_1 + x6_1)) + 1)) 2))] (by rfl) rfl rfl zl ?_
     with_reducible refine(nat_number_scaled.calls k1 _ _ l1_0 (IntKind.u64.wrap (Int.tdiv (IntKind.u64.wrap ((IntKind.u64.wrap (x5_1 + x6_1)) + 1)) 2)) t270 _ ?side1 ?side2 A6.out).mono ?_
     (case side1=>repeat (first | exact(Kd.C_below HR1_0.out HB.out) |(with_reducible refine Kd.C_alloc ?_ _) |(with_reducible refine Kd.C_drewN ?_ _) |(with_reducible refine Kd.C_drew ?_)))
     (case side2=>exact HC1_0.out)
     rintro e w14 ⟨v271,rfl,ho0,hb⟩
     refine⟨_,rfl,?_⟩
     have HO272:=am (Kd.R_lower ho0 (below_size zb))
     replace BK268:=kb BK268 hb
     replace BK269:=kb BK269 hb
     replace HB:=am (below_step zb hb)
     (try clear hb)
     (try clear hb2)
     (try clear hk)
     (try clear hi)
     (try clear ho0)
     obtain⟨Ao15,co15,eo15⟩:=Kd.R_slice HO272.out
     (first | subst eo15 |(injection eo15 with f1_ f2_ f3_;have f4_:=f1_.symm;have f5_:=f3_.symm;clear f1_ f2_ f3_;subst f4_;subst f5_))
     refine hK.out _ _ ⟨(blk_cell BK269.out 0).trans rfl,(blk_cell BK268.out 0).trans rfl⟩ (fun hHeld=>?_)
     clear hK K
     refine norm_ (a':=?_) ?_ ?_
     rotate_left
     ·show Act.put _ (some 18) _ = _
      simp only [Act.put,sA,sZ,sS,i64_w,i32_w]
      rfl
     refine one_ (i:=4) (N:=some 20) #[tt,tt,tt,tt,tt,ff] rfl rfl (by kernel_rfl) (by decide) (fun K hK=>?_)
     refine goes_ Tryz.func88 (by kernel_rfl) rfl #[.agg #[.slice Ao15 t270.length co15],.agg #[.slice A0_0 l0_0.length c0_0]] (by rfl) rfl rfl zl ?_
     with_reducible refine(nat_number_compare.calls k1 _ _ t270 _ _ l0_0 t273 _ ?side1 ?side2 ?side3 ?side4 A7.out).mono ?_
     (case side1=>exact zC (Kd.R_reads' HO272.out).2.2)
     (case side2=>exact(Kd.R_reads' HO272.out).2.1)
     (case side3=>repeat (first | exact(Kd.C_below HR0_0.out HB.out) |(with_reducible refine Kd.C_alloc ?_ _) |(with_reducible refine Kd.C_drewN ?_ _) |(with_reducible refine Kd.C_drew ?_)))
     (case side4=>exact HC0_0.out)
     rintro e w16 ⟨rfl,hb⟩
     refine⟨_,rfl,?_⟩
     replace HO272:=rb HO272 hb
     replace BK268:=kb BK268 hb
     replace BK269:=kb BK269 hb
     replace HB:=am (below_step zb hb)
     (try clear hb)
     (try clear hb2)
     (try clear hk)
     (try clear hi)
     refine hK.out _ _ ⟨(blk_cell BK269.out 0).trans rfl,(blk_cell BK268.out 0).trans rfl⟩ (fun hHeld=>?_)
     clear hK K
     refine norm_ (a':=?_) ?_ ?_
     rotate_left
     ·show Act.put _ (some 20) _ = _
      simp only [Act.put,sA,sZ,sS,i64_w,i32_w]
      rfl
     refine pu (i:=5) (N:=some 21) #[tt,tt,tt,tt,tt,tt] (by kernel_rfl) ?_
     refine done_ (by kernel_rfl) ?_
     try go_wp2
     go_roundg k1
     case measure=>have:=HK1.out;omega
     case rel=>exact⟨(x5_1),(IntKind.u64.wrap ((IntKind.u64.wrap (Int.tdiv (IntKind.u64.wrap ((IntKind.u64.wrap (x5_1 + x6_1)) + 1)) 2)) - 1)),ze,ze,H',⟨by have:=HK1.out;omega⟩,⟨zk BK268.out⟩,⟨zk BK269.out⟩,⟨zb⟩⟩
   ·rw [if_neg c5] at H
    have c5b0 : decide (x5_1 < x6_1) = false:=decide_eq_false c5
    clear c5
    obtain rfl:=Option.some.inj H
    go_wp2
    go_ret
    exact⟨zf,zb⟩

end Go.Proofs.YtcbohpmdeboeoaaGreatDoorRR.X

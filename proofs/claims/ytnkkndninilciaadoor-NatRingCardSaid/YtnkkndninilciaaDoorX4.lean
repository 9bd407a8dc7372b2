-- Printed by xprint.py, this session's own program (wip/tool), out of the translation. Lean checks it.
import Derived.Test.YtnkkndninilciaaDoorZ
import Derived.Test.YtnkkndninilciaaDoorX0
import Derived.Test.YtnkkndninilciaaDoorX1
import Derived.Test.YtnkkndninilciaaDoorX3
namespace Go.Proofs.YtnkkndninilciaaDoor.X
open Go.Proofs.YtnkkndninilciaaDoor.Z
open Go.RowKit Go.Proofs.YtnkkndninilciaaDoorW.PrintWords Go.Proofs.YtnkkndninilciaaDoorW.PrintLast Go.Proofs.YtnkkndninilciaaDoorW.PrintMore
open List renaming setIfInBounds_toArray → sA, set_cons_zero → sZ, set_cons_succ → sS
open Aside0 renaming mk → am
open Bool renaming true → tt, false → ff
set_option maxHeartbeats 8000000
set_option maxRecDepth 100000
attribute [local go_sem] max2_int min2_int max_two min_two max_three min_three max_four min_four   -- for this text's walks alone
set_option linter.unusedVariables false
set_option linter.unusedSimpArgs false

/-! ### nat_number_times: function 29 -/
mutual
def nat_number_times.l0 : Nat→List Int→List Int→Int→Int→List Int→Option (List Int)
 | 0,_,_,_,_,_=>none
 | k + 1,x5,x20,x21,x22,x189000=>if x22 < x21 then(if 0≤x22 then(if x22 < (x20.length : Int) then(nat_number_times.l1 k x5 x22 (rd x20 x22) 0 0 x20 x21 x22 x189000) else(none)) else(none)) else((nat_carried.f k x5).bind fun t193=>(some t193))
def nat_number_times.l1 : Nat→List Int→Int→Int→Int→Int→List Int→Int→Int→List Int→Option (List Int)
 | 0,_,_,_,_,_,_,_,_,_=>none
 | k + 1,x5,x6,x7,x8,x9,x20,x21,x22,x189000=>if x9 < (x189000.length : Int) then(if 0≤(wrap64 (x6 + x9)) then(if (wrap64 (x6 + x9)) < (x5.length : Int) then((nat_digits_at.f x189000 x9).bind fun t198=>(nat_number_times.l1 k (x5.set ((wrap64 (x6 + x9)) : Int).toNat (Int.tmod (IntKind.u64.wrap (x8 + (IntKind.u64.wrap ((rd x5 (wrap64 (x6 + x9))) + (IntKind.u64.wrap (x7 * t198)))))) 1000000000)) x6 x7 (IntKind.u64.wrap (Int.tdiv (IntKind.u64.wrap (x8 + (IntKind.u64.wrap ((rd x5 (wrap64 (x6 + x9))) + (IntKind.u64.wrap (x7 * t198)))))) 1000000000)) (wrap64 (x9 + 1)) x20 x21 x22 x189000)) else(none)) else(none)) else(if x8 > 0 then(if 0≤(wrap64 (x6 + x9)) then(if (wrap64 (x6 + x9)) < (x5.length : Int) then((nat_digits_at.f x189000 x9).bind fun t201=>(nat_number_times.l1 k (x5.set ((wrap64 (x6 + x9)) : Int).toNat (Int.tmod (IntKind.u64.wrap (x8 + (IntKind.u64.wrap ((rd x5 (wrap64 (x6 + x9))) + (IntKind.u64.wrap (x7 * t201)))))) 1000000000)) x6 x7 (IntKind.u64.wrap (Int.tdiv (IntKind.u64.wrap (x8 + (IntKind.u64.wrap ((rd x5 (wrap64 (x6 + x9))) + (IntKind.u64.wrap (x7 * t201)))))) 1000000000)) (wrap64 (x9 + 1)) x20 x21 x22 x189000)) else(none)) else(none)) else(nat_number_times.l0 k x5 x20 x21 (wrap64 (x22 + 1)) x189000))
end
def nat_number_times.f (k : Nat) (l0_0 : List Int) (l1_0 : List Int) : Option (List Int):=if 0≤(wrap64 ((wrap64 ((l0_0.length : Int) + (l1_0.length : Int))) + 1)) then(if (wrap64 ((wrap64 ((l0_0.length : Int) + (l1_0.length : Int))) + 1) : Int).toNat≤35184372088832 then(nat_number_times.l0 k (List.replicate (wrap64 ((wrap64 ((l0_0.length : Int) + (l1_0.length : Int))) + 1) : Int).toNat 0) l0_0 (l0_0.length : Int) 0 l1_0) else(none)) else(none)
theorem nat_number_times.calls (k : Nat) (A0_0 : Option Addr) (c0_0 : Nat) (l0_0 : List Int) (A1_0 : Option Addr) (c1_0 : Nat) (l1_0 : List Int) (r : List Int) (w : World) (hr0_0 : Kd.C (Kd.int .u64) w A0_0 l0_0.length l0_0) (hc0_0 : l0_0.length≤c0_0) (hr1_0 : Kd.C (Kd.int .u64) w A1_0 l1_0.length l1_0) (hc1_0 : l1_0.length≤c1_0) (h : nat_number_times.f k l0_0 l1_0 = some r) :
  Calls Tryd.prog 29 #[.agg #[.slice A0_0 l0_0.length c0_0],.agg #[.slice A1_0 l1_0.length c1_0]] w fun e w'=>∃ v0_ : Value,e = .returned (.agg #[v0_])∧Kd.R (Kd.int .u64) 55 w' w.heap.size (fun _=>True) v0_ r∧Below w.heap.size w w':=by
 have hu47:=Tryd.underlying47
 have HR0_0:=am hr0_0
 have HC0_0:=am hc0_0
 clear hr0_0 hc0_0
 have HR1_0:=am hr1_0
 have HC1_0:=am hc1_0
 clear hr1_0 hc1_0
 have HB:=am (Below.refl w.heap.size w)
 have H : (if 0≤(wrap64 ((wrap64 ((l0_0.length : Int) + (l1_0.length : Int))) + 1)) then(if (wrap64 ((wrap64 ((l0_0.length : Int) + (l1_0.length : Int))) + 1) : Int).toNat≤35184372088832 then(nat_number_times.l0 k (List.replicate (wrap64 ((wrap64 ((l0_0.length : Int) + (l1_0.length : Int))) + 1) : Int).toNat 0) l0_0 (l0_0.length : Int) 0 l1_0) else(none)) else(none)) = some r:=h
 clear h
 obtain⟨ji3,hji3⟩ : ∃ j_ : Int,(wrap64 ((wrap64 ((l0_0.length : Int) + (l1_0.length : Int))) + 1)) = j_:=⟨_,rfl⟩
 replace H : (if 0≤(ji3) then(if (ji3 : Int).toNat≤35184372088832 then(nat_number_times.l0 k (List.replicate (ji3 : Int).toNat 0) l0_0 (l0_0.length : Int) 0 l1_0) else(none)) else(none)) = some r:=by first |(rw [hji3] at H;exact H) |(simp only [hji3] at H ⊢;exact H)
 have hji3w : (IntKind.i64.wrap ((wrap64 ((l0_0.length : Int) + (l1_0.length : Int))) + 1)) = ji3:=(i64_w _).trans hji3
 by_cases c4 : 0≤(ji3)
 ·rw [if_pos c4] at H
  have c4b0:=eq_true c4
  have c4b1 : decide (0≤(ji3)) = true:=decide_eq_true c4
  clear c4
  by_cases c5 : (ji3 : Int).toNat≤35184372088832
  ·rw [if_pos c5] at H
   have c5b0:=eq_true c5
   have c5b1 : decide ((ji3 : Int).toNat≤35184372088832) = true:=decide_eq_true c5
   clear c5
   obtain⟨y190,hy190⟩ : ∃ y_ : List Int,y_ = (List.replicate (ji3 : Int).toNat 0):=⟨_,rfl⟩
   replace H : (nat_number_times.l0 k y190 l0_0 (l0_0.length : Int) 0 l1_0) = some r:=by first |(rw [hy190];with_reducible exact H) |(have H2_:=(Option.bind_some _ _).symm.trans H;rw [hy190];with_reducible exact H2_) |(have H2_:=(Option.bind_some _ _).symm.trans H;with_reducible exact H2_) | with_reducible exact H |(rw [hy190];exact H) | exact H
   have Ny190:=am hy190
   clear hy190
   have H':=am H
   clear H
   go_enter Tryd.func29,Tryd.ntmps29
   go_wp2_with (first |((with_reducible refine gate_dst (N:=2) rfl ?_);refine box_event ?hg (N:=2) ?hd (cs:=#[.slice A0_0 l0_0.length c0_0]) (t:=47) ?hr ?_;(case hd=>rfl);(case hg=>rfl);(case hr=>exact zh);intro gb187 hg w6 hbox hb;have BK187:=am (hbox);have GW187:=gw w hg;have GE187:=gw w hg;replace HB:=am (below_step zb hb);clear hb hbox hg) |((with_reducible refine gate_dst (N:=3) rfl ?_);refine box_event ?hg (N:=3) ?hd (cs:=#[.slice A1_0 l1_0.length c1_0]) (t:=47) ?hr ?_;(case hd=>rfl);(case hg=>rfl);(case hr=>exact zh);intro gb188 hg w7 hbox hb;have BK188:=am (hbox);have GW188:=gw w hg;have GE188:=gw w hg;replace HB:=am (below_step zb hb);have NB187_188:=nl BK187 hg;have NB188_187:=nr BK187 hg;replace BK187:=kb BK187 hb;clear hb hbox hg) |((with_reducible refine gate_dst (N:=4) rfl ?_);refine box_event ?hg (N:=4) ?hd (cs:=#[.slice none 0 0]) (t:=47) ?hr ?_;(case hd=>rfl);(case hg=>rfl);(case hr=>exact zh);intro gb189 hg w8 hbox hb;have BK189:=am (hbox);have GW189:=gw w hg;have GE189:=gw w hg;replace HB:=am (below_step zb hb);have NB187_189:=nl BK187 hg;have NB189_187:=nr BK187 hg;replace BK187:=kb BK187 hb;have NB188_189:=nl BK188 hg;have NB189_188:=nr BK188 hg;replace BK188:=kb BK188 hb;clear hb hbox hg;have hnb9:=NB187_188.out;have hnc9:=NB188_187.out;have hnb10:=NB187_189.out;have hnc10:=NB189_187.out;have hcz11_0 : w8.cell? ⟨gb187,0,none⟩ = some (.slice A0_0 l0_0.length c0_0):=(blk_cell BK187.out 0).trans rfl;have hfz11_0:=blk_frozen BK187.out 0;have hnb12:=NB188_189.out;have hnc12:=NB189_188.out;have hcz13_0 : w8.cell? ⟨gb188,0,none⟩ = some (.slice A1_0 l1_0.length c1_0):=(blk_cell BK188.out 0).trans rfl;have hfz13_0:=blk_frozen BK188.out 0) |((with_reducible refine gate_dst (N:=18) rfl ?_);refine Kd.R_make (Kd.int .u64) _ 55 rfl (N:=18) rfl 45 _ _ rfl ji3 rfl rfl Tryd.underlying45 (.int .u64 0) 8 info55 rfl (by decide) (by omega) 0 (ok:=fun _=>True) (okp:=fun _=>True) rfl (fun _ hk=>hk) trivial (of_decide_eq_true za) (Nat.le_trans (Nat.mul_le_mul_right _ (of_decide_eq_true za : ji3.toNat≤35184372088832)) (by omega)) (Below.refl _ _) (Nat.le_refl _) ?_;intro v191 w14 ho15 hb hg_ hnew_;clear hg_ hnew_;(first | rw [← Ny190.out] at ho15 |(simp only [Int.reduceToNat] at ho15;rw [← Ny190.out] at ho15));have HO192:=am (Kd.R_lower ho15 (below_size zb));replace BK187:=kb BK187 hb;replace BK188:=kb BK188 hb;replace BK189:=kb BK189 hb;replace HB:=am (below_step zb hb);clear hb ho15;have hcz16_0 : w14.cell? ⟨gb187,0,none⟩ = some (.slice A0_0 l0_0.length c0_0):=(blk_cell BK187.out 0).trans rfl;have hfz16_0:=blk_frozen BK187.out 0))
   repeat (go_quiet (first |((with_reducible refine gate_dst (N:=2) rfl ?_);refine box_event ?hg (N:=2) ?hd (cs:=#[.slice A0_0 l0_0.length c0_0]) (t:=47) ?hr ?_;(case hd=>rfl);(case hg=>rfl);(case hr=>exact zh);intro gb187 hg w6 hbox hb;have BK187:=am (hbox);have GW187:=gw w hg;have GE187:=gw w hg;replace HB:=am (below_step zb hb);clear hb hbox hg) |((with_reducible refine gate_dst (N:=3) rfl ?_);refine box_event ?hg (N:=3) ?hd (cs:=#[.slice A1_0 l1_0.length c1_0]) (t:=47) ?hr ?_;(case hd=>rfl);(case hg=>rfl);(case hr=>exact zh);intro gb188 hg w7 hbox hb;have BK188:=am (hbox);have GW188:=gw w hg;have GE188:=gw w hg;replace HB:=am (below_step zb hb);have NB187_188:=nl BK187 hg;have NB188_187:=nr BK187 hg;replace BK187:=kb BK187 hb;clear hb hbox hg) |((with_reducible refine gate_dst (N:=4) rfl ?_);refine box_event ?hg (N:=4) ?hd (cs:=#[.slice none 0 0]) (t:=47) ?hr ?_;(case hd=>rfl);(case hg=>rfl);(case hr=>exact zh);intro gb189 hg w8 hbox hb;have BK189:=am (hbox);have GW189:=gw w hg;have GE189:=gw w hg;replace HB:=am (below_step zb hb);have NB187_189:=nl BK187 hg;have NB189_187:=nr BK187 hg;replace BK187:=kb BK187 hb;have NB188_189:=nl BK188 hg;have NB189_188:=nr BK188 hg;replace BK188:=kb BK188 hb;clear hb hbox hg;have hnb9:=NB187_188.out;have hnc9:=NB188_187.out;have hnb10:=NB187_189.out;have hnc10:=NB189_187.out;have hcz11_0 : w8.cell? ⟨gb187,0,none⟩ = some (.slice A0_0 l0_0.length c0_0):=(blk_cell BK187.out 0).trans rfl;have hfz11_0:=blk_frozen BK187.out 0;have hnb12:=NB188_189.out;have hnc12:=NB189_188.out;have hcz13_0 : w8.cell? ⟨gb188,0,none⟩ = some (.slice A1_0 l1_0.length c1_0):=(blk_cell BK188.out 0).trans rfl;have hfz13_0:=blk_frozen BK188.out 0) |((with_reducible refine gate_dst (N:=18) rfl ?_);refine Kd.R_make (Kd.int .u64) _ 55 rfl (N:=18) rfl 45 _ _ rfl ji3 rfl rfl Tryd.underlying45 (.int .u64 0) 8 info55 rfl (by decide) (by omega) 0 (ok:=fun _=>True) (okp:=fun _=>True) rfl (fun _ hk=>hk) trivial (of_decide_eq_true za) (Nat.le_trans (Nat.mul_le_mul_right _ (of_decide_eq_true za : ji3.toNat≤35184372088832)) (by omega)) (Below.refl _ _) (Nat.le_refl _) ?_;intro v191 w14 ho15 hb hg_ hnew_;clear hg_ hnew_;(first | rw [← Ny190.out] at ho15 |(simp only [Int.reduceToNat] at ho15;rw [← Ny190.out] at ho15));have HO192:=am (Kd.R_lower ho15 (below_size zb));replace BK187:=kb BK187 hb;replace BK188:=kb BK188 hb;replace BK189:=kb BK189 hb;replace HB:=am (below_step zb hb);clear hb ho15;have hcz16_0 : w14.cell? ⟨gb187,0,none⟩ = some (.slice A0_0 l0_0.length c0_0):=(blk_cell BK187.out 0).trans rfl;have hfz16_0:=blk_frozen BK187.out 0));try go_wp2_with (first |((with_reducible refine gate_dst (N:=2) rfl ?_);refine box_event ?hg (N:=2) ?hd (cs:=#[.slice A0_0 l0_0.length c0_0]) (t:=47) ?hr ?_;(case hd=>rfl);(case hg=>rfl);(case hr=>exact zh);intro gb187 hg w6 hbox hb;have BK187:=am (hbox);have GW187:=gw w hg;have GE187:=gw w hg;replace HB:=am (below_step zb hb);clear hb hbox hg) |((with_reducible refine gate_dst (N:=3) rfl ?_);refine box_event ?hg (N:=3) ?hd (cs:=#[.slice A1_0 l1_0.length c1_0]) (t:=47) ?hr ?_;(case hd=>rfl);(case hg=>rfl);(case hr=>exact zh);intro gb188 hg w7 hbox hb;have BK188:=am (hbox);have GW188:=gw w hg;have GE188:=gw w hg;replace HB:=am (below_step zb hb);have NB187_188:=nl BK187 hg;have NB188_187:=nr BK187 hg;replace BK187:=kb BK187 hb;clear hb hbox hg) |((with_reducible refine gate_dst (N:=4) rfl ?_);refine box_event ?hg (N:=4) ?hd (cs:=#[.slice none 0 0]) (t:=47) ?hr ?_;(case hd=>rfl);(case hg=>rfl);(case hr=>exact zh);intro gb189 hg w8 hbox hb;have BK189:=am (hbox);have GW189:=gw w hg;have GE189:=gw w hg;replace HB:=am (below_step zb hb);have NB187_189:=nl BK187 hg;have NB189_187:=nr BK187 hg;replace BK187:=kb BK187 hb;have NB188_189:=nl BK188 hg;have NB189_188:=nr BK188 hg;replace BK188:=kb BK188 hb;clear hb hbox hg;have hnb9:=NB187_188.out;have hnc9:=NB188_187.out;have hnb10:=NB187_189.out;have hnc10:=NB189_187.out;have hcz11_0 : w8.cell? ⟨gb187,0,none⟩ = some (.slice A0_0 l0_0.length c0_0):=(blk_cell BK187.out 0).trans rfl;have hfz11_0:=blk_frozen BK187.out 0;have hnb12:=NB188_189.out;have hnc12:=NB189_188.out;have hcz13_0 : w8.cell? ⟨gb188,0,none⟩ = some (.slice A1_0 l1_0.length c1_0):=(blk_cell BK188.out 0).trans rfl;have hfz13_0:=blk_frozen BK188.out 0) |((with_reducible refine gate_dst (N:=18) rfl ?_);refine Kd.R_make (Kd.int .u64) _ 55 rfl (N:=18) rfl 45 _ _ rfl ji3 rfl rfl Tryd.underlying45 (.int .u64 0) 8 info55 rfl (by decide) (by omega) 0 (ok:=fun _=>True) (okp:=fun _=>True) rfl (fun _ hk=>hk) trivial (of_decide_eq_true za) (Nat.le_trans (Nat.mul_le_mul_right _ (of_decide_eq_true za : ji3.toNat≤35184372088832)) (by omega)) (Below.refl _ _) (Nat.le_refl _) ?_;intro v191 w14 ho15 hb hg_ hnew_;clear hg_ hnew_;(first | rw [← Ny190.out] at ho15 |(simp only [Int.reduceToNat] at ho15;rw [← Ny190.out] at ho15));have HO192:=am (Kd.R_lower ho15 (below_size zb));replace BK187:=kb BK187 hb;replace BK188:=kb BK188 hb;replace BK189:=kb BK189 hb;replace HB:=am (below_step zb hb);clear hb ho15;have hcz16_0 : w14.cell? ⟨gb187,0,none⟩ = some (.slice A0_0 l0_0.length c0_0):=(blk_cell BK187.out 0).trans rfl;have hfz16_0:=blk_frozen BK187.out 0)))
   go_loopg [22] k (fun kq v22 w'=>∃ (x5_1 : List Int) (x22_1 : Int),v22 = .int .i64 x22_1∧Aside0 (nat_number_times.l0 kq x5_1 l0_0 (l0_0.length : Int) x22_1 l1_0 = some r)∧Aside0 (kq≤k)∧Aside0 (Kd.R (Kd.int .u64) 55 w' w.heap.size (fun _=>True) v191 x5_1)∧Aside0 (w'.heap[gb187]? = some (.cells #[(.slice A0_0 l0_0.length c0_0)] 47 (0,0)))∧Aside0 (w'.heap[gb188]? = some (.cells #[(.slice A1_0 l1_0.length c1_0)] 47 (0,0)))∧Aside0 (w'.heap[gb189]? = some (.cells #[(.slice none 0 0)] 47 (0,0)))∧Aside0 (Below w.heap.size w w'))
   case atStart=>exact⟨(y190),(0),ze,H',⟨Nat.le_refl _⟩,⟨zR HO192.out⟩,⟨zk BK187.out⟩,⟨zk BK188.out⟩,⟨zk BK189.out⟩,⟨zb⟩⟩
   case round=>
    clear H'
    try clear c1
    try clear c2
    try clear p2
    try clear c4
    try clear c4b0
    try clear c4b1
    try clear c5
    try clear c5b0
    try clear c5b1
    try clear p6
    try clear c9
    try clear c10
    try clear c12
    try clear hcz11_0
    try clear hcz13_0
    try clear hcz16_0
    try clear hfz11_0
    try clear hfz13_0
    try clear hfz16_0
    obtain⟨x5_1,x22_1,rfl,HA,HK1,HO_5,BK187,BK188,BK189,HB⟩:=hrel
    cases gk with
    | zero=>exact absurd HA.out (by simp [nat_number_times.l0])
    | succ k1=>
     have H:=HA.out
     clear HA
     simp only [nat_number_times.l0] at H
     by_cases c17 : x22_1 < (l0_0.length : Int)
     ·rw [if_pos c17] at H
      have c17b0 : decide (x22_1 < (l0_0.length : Int)) = true:=decide_eq_true c17
      clear c17
      by_cases c18 : 0≤x22_1
      ·rw [if_pos c18] at H
       have c18b0 : decide (0≤x22_1) = true:=decide_eq_true c18
       clear c18
       by_cases c19 : x22_1 < (l0_0.length : Int)
       ·rw [if_pos c19] at H
        have c19b0 : decide (x22_1 < (l0_0.length : Int)) = true:=decide_eq_true c19
        clear c19
        have H':=am H
        clear H
        have p196 : 0≤(x22_1 : Int):=of_decide_eq_true za
        have q196 : x22_1 < (l0_0.length : Int):=of_decide_eq_true za
        obtain⟨ad196,e196,hx196_0⟩:=Kd.at_int HR0_0.out x22_1 p196 q196
        cases e196
        replace hx196_0:=(HB.out.cell (World.block_lt_of_cell? w _ hx196_0)).trans hx196_0
        replace p196:=eq_true p196
        replace q196:=eq_true q196
        go_wp2
        repeat (go_quiet (fail);try go_wp2)
        go_loopg [8,9] k1 (fun kq v8 v9 w'=>∃ (x5_2 : List Int) (x8_2 : Int) (x9_2 : Int),v8 = .int .u64 x8_2∧v9 = .int .i64 x9_2∧Aside0 (nat_number_times.l1 kq x5_2 x22_1 (rd l0_0 x22_1) x8_2 x9_2 l0_0 (l0_0.length : Int) x22_1 l1_0 = some r)∧Aside0 (kq≤k1)∧Aside0 (Kd.R (Kd.int .u64) 55 w' w.heap.size (fun _=>True) v191 x5_2)∧Aside0 (w'.heap[gb187]? = some (.cells #[(.slice (some ad196) l0_0.length c0_0)] 47 (0,0)))∧Aside0 (w'.heap[gb188]? = some (.cells #[(.slice A1_0 l1_0.length c1_0)] 47 (0,0)))∧Aside0 (w'.heap[gb189]? = some (.cells #[(.slice none 0 0)] 47 (0,0)))∧Aside0 (Below w.heap.size w w'))
        case atStart=>exact⟨(x5_1),(0),(0),ze,ze,H',⟨Nat.le_refl _⟩,⟨zR HO_5.out⟩,⟨zk BK187.out⟩,⟨zk BK188.out⟩,⟨zk BK189.out⟩,⟨zb⟩⟩
        case round=>
         clear H'
         try clear c1
         try clear p1
         try clear q1
         try clear hx1
         try clear c2
         try clear p2
         try clear c4
         try clear c4b0
         try clear c4b1
         try clear c5
         try clear c5b0
         try clear c5b1
         try clear p6
         try clear c9
         try clear c10
         try clear c12
         try clear c17
         try clear c17b0
         try clear c18
         try clear c18b0
         try clear c19
         try clear c19b0
         try clear p19
         try clear q19
         try clear hx19
         try clear hcz11_0
         try clear hcz13_0
         try clear hcz16_0
         try clear hfz11_0
         try clear hfz13_0
         try clear hfz16_0
         try clear hx196_0
         try clear p196
         try clear p2
         try clear p6
         try clear q196
         obtain⟨x5_2,x8_2,x9_2,rfl,rfl,HA,HK2,HO_5,BK187,BK188,BK189,HB⟩:=hrel
         cases gk with
         | zero=>exact absurd HA.out (by simp [nat_number_times.l1])
         | succ k2=>
          have H:=HA.out
          clear HA
          simp only [nat_number_times.l1] at H
          by_cases c20 : x9_2 < (l1_0.length : Int)
          ·rw [if_pos c20] at H
           have c20b0 : decide (x9_2 < (l1_0.length : Int)) = true:=decide_eq_true c20
           clear c20
           obtain⟨ji21,hji21⟩ : ∃ j_ : Int,(wrap64 (x22_1 + x9_2)) = j_:=⟨_,rfl⟩
           replace H : (if 0≤(ji21) then(if (ji21) < (x5_2.length : Int) then((nat_digits_at.f l1_0 x9_2).bind fun t198=>(nat_number_times.l1 k2 (x5_2.set ((ji21) : Int).toNat (Int.tmod (IntKind.u64.wrap (x8_2 + (IntKind.u64.wrap ((rd x5_2 (ji21)) + (IntKind.u64.wrap ((rd l0_0 x22_1) * t198)))))) 1000000000)) x22_1 (rd l0_0 x22_1) (IntKind.u64.wrap (Int.tdiv (IntKind.u64.wrap (x8_2 + (IntKind.u64.wrap ((rd x5_2 (ji21)) + (IntKind.u64.wrap ((rd l0_0 x22_1) * t198)))))) 1000000000)) (wrap64 (x9_2 + 1)) l0_0 (l0_0.length : Int) x22_1 l1_0)) else(none)) else(none)) = some r:=by first |(rw [hji21] at H;exact H) |(simp only [hji21] at H ⊢;exact H)
           have hji21w : (IntKind.i64.wrap (x22_1 + x9_2)) = ji21:=(i64_w _).trans hji21
           by_cases c22 : 0≤(ji21)
           ·rw [if_pos c22] at H
            have c22b0 : decide (0≤(ji21)) = true:=decide_eq_true c22
            clear c22
            by_cases c23 : (ji21) < (x5_2.length : Int)
            ·rw [if_pos c23] at H
             have c23b0 : decide ((ji21) < (x5_2.length : Int)) = true:=decide_eq_true c23
             clear c23
             replace H:=Option.bind_eq_some_iff.mp H
             obtain⟨t198,A240,H⟩:=H
             try dsimp only at H
             have A24:=am A240
             clear A240
             obtain⟨y199,hy199⟩ : ∃ y_ : List Int,y_ = (x5_2.set ((ji21) : Int).toNat (Int.tmod (IntKind.u64.wrap (x8_2 + (IntKind.u64.wrap ((rd x5_2 (ji21)) + (IntKind.u64.wrap ((rd l0_0 x22_1) * t198)))))) 1000000000)):=⟨_,rfl⟩
             replace H : (nat_number_times.l1 k2 y199 x22_1 (rd l0_0 x22_1) (IntKind.u64.wrap (Int.tdiv (IntKind.u64.wrap (x8_2 + (IntKind.u64.wrap ((rd x5_2 (ji21)) + (IntKind.u64.wrap ((rd l0_0 x22_1) * t198)))))) 1000000000)) (wrap64 (x9_2 + 1)) l0_0 (l0_0.length : Int) x22_1 l1_0) = some r:=by first |(rw [hy199];with_reducible exact H) |(have H2_:=(Option.bind_some _ _).symm.trans H;rw [hy199];with_reducible exact H2_) |(have H2_:=(Option.bind_some _ _).symm.trans H;with_reducible exact H2_) | with_reducible exact H |(rw [hy199];exact H) | exact H
             have Ny199:=am hy199
             clear hy199
             have H':=am H
             clear H
             have hnb26:=NB188_187.out
             have hnc26:=NB187_188.out
             have hnb27:=NB188_189.out
             have hnc27:=NB189_188.out
             have hcz28_0 : wr.cell? ⟨gb188,0,none⟩ = some (.slice A1_0 l1_0.length c1_0):=(blk_cell BK188.out 0).trans rfl
             have hfz28_0:=blk_frozen BK188.out 0
             obtain⟨Ao29,co29,eo29⟩:=Kd.R_slice HO_5.out
             subst eo29
             have p197 : 0≤((ji21) : Int):=of_decide_eq_true za
             have q197 : (ji21) < (x5_2.length : Int):=of_decide_eq_true za
             obtain⟨ad197,e197,hx197_0⟩:=Kd.at_int (Kd.R_reads' HO_5.out).2.2 (ji21) p197 q197
             cases e197
             replace p197:=eq_true p197
             replace q197:=eq_true q197
             go_wp2_with (first |(go_at_call 43;(with_reducible refine(nat_digits_at.calls _ _ l1_0 x9_2 t198 _ ?side1 ?side2 A24.out).mono ?_);(case side1=>repeat (first | exact(Kd.C_below HR1_0.out HB.out) |(with_reducible refine Kd.C_alloc ?_ _) |(with_reducible refine Kd.C_drewN ?_ _) |(with_reducible refine Kd.C_drew ?_)));(case side2=>exact HC1_0.out);rintro e w' ⟨rfl,⟨nd,rfl⟩⟩;(try first | exact⟨rfl,_,World.drewN_drewN _ _ _⟩ | exact⟨rfl,_,Eq.trans (World.drewN_drewN _ _ _) (congrArg (World.drewN _) (Nat.add_assoc _ _ _))⟩);have p25 : 0≤((ji21) : Int):=of_decide_eq_true za;have q25 : ((ji21) : Int) < ((x5_2.length : Int) : Int):=of_decide_eq_true za;obtain⟨go25,co25,eo25,gb25,gl25,cl25,HG25⟩:=Kd.R_form HO_5.out (by omega);(first | cases eo25 |(injection eo25 with ea_ en_ ec_;(first | subst ea_ |(injection ea_ with ea_;subst ea_));subst ec_;clear en_));have GB25:=am gb25;have GG25:=am HG25;clear gb25 gl25 HG25;(first | simp only [add_plain] at hx197_0 | skip);obtain⟨hx25_0,hf25_0⟩:=Kd.R_celln 0 HO_5.out ((ji21) : Int) p25 q25;replace p25:=eq_true p25;replace q25:=eq_true q25;obtain⟨hy30_,hz30_⟩:=Kd.R_celln 0 HO_5.out ((ji21) : Int) (of_decide_eq_true za) (of_decide_eq_true za);have HP30:=Kd.R_putg HO_5.out ((ji21) : Int) (Int.tmod (IntKind.u64.wrap (x8_2 + (IntKind.u64.wrap ((rd x5_2 (ji21)) + (IntKind.u64.wrap ((rd l0_0 x22_1) * t198)))))) 1000000000)) |((with_reducible refine gate_store (t:=55) (p:=59) rfl ?_);(try (rw [drewN_self wr];generalize hq_ : World.drewN wr _ = wr;have n0_:=am (Kd.R_at hq_ HO_5.out);have n1_:=am (blk_at hq_ BK187.out);have n2_:=am (blk_at hq_ BK188.out);have n3_:=am (blk_at hq_ BK189.out);have n4_:=am (below_at hq_ HB.out);clear hq_ HO_5 BK187 BK188 BK189 HB;have HO_5:=n0_;have BK187:=n1_;have BK188:=n2_;have BK189:=n3_;have HB:=n4_;clear n0_ n1_ n2_ n3_ n4_;(try (obtain⟨hy30_,hz30_⟩:=Kd.R_celln 0 HO_5.out ((ji21) : Int) (of_decide_eq_true za) (of_decide_eq_true za)));(try (have HP30:=Kd.R_putg HO_5.out ((ji21) : Int) (Int.tmod (IntKind.u64.wrap (x8_2 + (IntKind.u64.wrap ((rd x5_2 (ji21)) + (IntKind.u64.wrap ((rd l0_0 x22_1) * t198)))))) 1000000000)))));refine store_event (t:=55) (p:=59) (v:=?vo_w31) (w1:=(wr.setCell ⟨go25,((ji21) : Int).toNat,none⟩ (.int .u64 (Int.tmod (IntKind.u64.wrap (x8_2 + (IntKind.u64.wrap ((rd x5_2 (ji21)) + (IntKind.u64.wrap ((rd l0_0 x22_1) * t198)))))) 1000000000)))) ?hg ?ho ?hn ?hr ?_;(case ho=>rfl);(case hg=>rfl);(case hn=>rfl);(case hr=>exact zh);intro w31 hw;have hg : wr.grownBy w31 (some go25):=(by rw [hw];exact HP30.2);have hp_ : Kd.R (Kd.int .u64) 55 w31 w.heap.size (fun _=>True) (.slice (some ⟨go25,0,none⟩) x5_2.length co29) y199:=(by rw [hw,Ny199.out];exact HP30.1);clear HP30;replace BK187:=am (blk_grown (zk BK187.out) hg (Kd.R_ne HO_5.out BK187.out (by decide)));replace BK188:=am (blk_grown (zk BK188.out) hg (Kd.R_ne HO_5.out BK188.out (by decide)));replace BK189:=am (blk_grown (zk BK189.out) hg (Kd.R_ne HO_5.out BK189.out (by decide)));replace HO_5:=am (hp_);replace HB:=am ((by rw [hw];exact below_set (HB.out) GB25.out : Below w.heap.size w w31));clear hg hw hp_))
             repeat (go_quiet (first |(go_at_call 43;(with_reducible refine(nat_digits_at.calls _ _ l1_0 x9_2 t198 _ ?side1 ?side2 A24.out).mono ?_);(case side1=>repeat (first | exact(Kd.C_below HR1_0.out HB.out) |(with_reducible refine Kd.C_alloc ?_ _) |(with_reducible refine Kd.C_drewN ?_ _) |(with_reducible refine Kd.C_drew ?_)));(case side2=>exact HC1_0.out);rintro e w' ⟨rfl,⟨nd,rfl⟩⟩;(try first | exact⟨rfl,_,World.drewN_drewN _ _ _⟩ | exact⟨rfl,_,Eq.trans (World.drewN_drewN _ _ _) (congrArg (World.drewN _) (Nat.add_assoc _ _ _))⟩);have p25 : 0≤((ji21) : Int):=of_decide_eq_true za;have q25 : ((ji21) : Int) < ((x5_2.length : Int) : Int):=of_decide_eq_true za;obtain⟨go25,co25,eo25,gb25,gl25,cl25,HG25⟩:=Kd.R_form HO_5.out (by omega);(first | cases eo25 |(injection eo25 with ea_ en_ ec_;(first | subst ea_ |(injection ea_ with ea_;subst ea_));subst ec_;clear en_));have GB25:=am gb25;have GG25:=am HG25;clear gb25 gl25 HG25;(first | simp only [add_plain] at hx197_0 | skip);obtain⟨hx25_0,hf25_0⟩:=Kd.R_celln 0 HO_5.out ((ji21) : Int) p25 q25;replace p25:=eq_true p25;replace q25:=eq_true q25;obtain⟨hy30_,hz30_⟩:=Kd.R_celln 0 HO_5.out ((ji21) : Int) (of_decide_eq_true za) (of_decide_eq_true za);have HP30:=Kd.R_putg HO_5.out ((ji21) : Int) (Int.tmod (IntKind.u64.wrap (x8_2 + (IntKind.u64.wrap ((rd x5_2 (ji21)) + (IntKind.u64.wrap ((rd l0_0 x22_1) * t198)))))) 1000000000)) |((with_reducible refine gate_store (t:=55) (p:=59) rfl ?_);(try (rw [drewN_self wr];generalize hq_ : World.drewN wr _ = wr;have n0_:=am (Kd.R_at hq_ HO_5.out);have n1_:=am (blk_at hq_ BK187.out);have n2_:=am (blk_at hq_ BK188.out);have n3_:=am (blk_at hq_ BK189.out);have n4_:=am (below_at hq_ HB.out);clear hq_ HO_5 BK187 BK188 BK189 HB;have HO_5:=n0_;have BK187:=n1_;have BK188:=n2_;have BK189:=n3_;have HB:=n4_;clear n0_ n1_ n2_ n3_ n4_;(try (obtain⟨hy30_,hz30_⟩:=Kd.R_celln 0 HO_5.out ((ji21) : Int) (of_decide_eq_true za) (of_decide_eq_true za)));(try (have HP30:=Kd.R_putg HO_5.out ((ji21) : Int) (Int.tmod (IntKind.u64.wrap (x8_2 + (IntKind.u64.wrap ((rd x5_2 (ji21)) + (IntKind.u64.wrap ((rd l0_0 x22_1) * t198)))))) 1000000000)))));refine store_event (t:=55) (p:=59) (v:=?vo_w31) (w1:=(wr.setCell ⟨go25,((ji21) : Int).toNat,none⟩ (.int .u64 (Int.tmod (IntKind.u64.wrap (x8_2 + (IntKind.u64.wrap ((rd x5_2 (ji21)) + (IntKind.u64.wrap ((rd l0_0 x22_1) * t198)))))) 1000000000)))) ?hg ?ho ?hn ?hr ?_;(case ho=>rfl);(case hg=>rfl);(case hn=>rfl);(case hr=>exact zh);intro w31 hw;have hg : wr.grownBy w31 (some go25):=(by rw [hw];exact HP30.2);have hp_ : Kd.R (Kd.int .u64) 55 w31 w.heap.size (fun _=>True) (.slice (some ⟨go25,0,none⟩) x5_2.length co29) y199:=(by rw [hw,Ny199.out];exact HP30.1);clear HP30;replace BK187:=am (blk_grown (zk BK187.out) hg (Kd.R_ne HO_5.out BK187.out (by decide)));replace BK188:=am (blk_grown (zk BK188.out) hg (Kd.R_ne HO_5.out BK188.out (by decide)));replace BK189:=am (blk_grown (zk BK189.out) hg (Kd.R_ne HO_5.out BK189.out (by decide)));replace HO_5:=am (hp_);replace HB:=am ((by rw [hw];exact below_set (HB.out) GB25.out : Below w.heap.size w w31));clear hg hw hp_));try go_wp2_with (first |(go_at_call 43;(with_reducible refine(nat_digits_at.calls _ _ l1_0 x9_2 t198 _ ?side1 ?side2 A24.out).mono ?_);(case side1=>repeat (first | exact(Kd.C_below HR1_0.out HB.out) |(with_reducible refine Kd.C_alloc ?_ _) |(with_reducible refine Kd.C_drewN ?_ _) |(with_reducible refine Kd.C_drew ?_)));(case side2=>exact HC1_0.out);rintro e w' ⟨rfl,⟨nd,rfl⟩⟩;(try first | exact⟨rfl,_,World.drewN_drewN _ _ _⟩ | exact⟨rfl,_,Eq.trans (World.drewN_drewN _ _ _) (congrArg (World.drewN _) (Nat.add_assoc _ _ _))⟩);have p25 : 0≤((ji21) : Int):=of_decide_eq_true za;have q25 : ((ji21) : Int) < ((x5_2.length : Int) : Int):=of_decide_eq_true za;obtain⟨go25,co25,eo25,gb25,gl25,cl25,HG25⟩:=Kd.R_form HO_5.out (by omega);(first | cases eo25 |(injection eo25 with ea_ en_ ec_;(first | subst ea_ |(injection ea_ with ea_;subst ea_));subst ec_;clear en_));have GB25:=am gb25;have GG25:=am HG25;clear gb25 gl25 HG25;(first | simp only [add_plain] at hx197_0 | skip);obtain⟨hx25_0,hf25_0⟩:=Kd.R_celln 0 HO_5.out ((ji21) : Int) p25 q25;replace p25:=eq_true p25;replace q25:=eq_true q25;obtain⟨hy30_,hz30_⟩:=Kd.R_celln 0 HO_5.out ((ji21) : Int) (of_decide_eq_true za) (of_decide_eq_true za);have HP30:=Kd.R_putg HO_5.out ((ji21) : Int) (Int.tmod (IntKind.u64.wrap (x8_2 + (IntKind.u64.wrap ((rd x5_2 (ji21)) + (IntKind.u64.wrap ((rd l0_0 x22_1) * t198)))))) 1000000000)) |((with_reducible refine gate_store (t:=55) (p:=59) rfl ?_);(try (rw [drewN_self wr];generalize hq_ : World.drewN wr _ = wr;have n0_:=am (Kd.R_at hq_ HO_5.out);have n1_:=am (blk_at hq_ BK187.out);have n2_:=am (blk_at hq_ BK188.out);have n3_:=am (blk_at hq_ BK189.out);have n4_:=am (below_at hq_ HB.out);clear hq_ HO_5 BK187 BK188 BK189 HB;have HO_5:=n0_;have BK187:=n1_;have BK188:=n2_;have BK189:=n3_;have HB:=n4_;clear n0_ n1_ n2_ n3_ n4_;(try (obtain⟨hy30_,hz30_⟩:=Kd.R_celln 0 HO_5.out ((ji21) : Int) (of_decide_eq_true za) (of_decide_eq_true za)));(try (have HP30:=Kd.R_putg HO_5.out ((ji21) : Int) (Int.tmod (IntKind.u64.wrap (x8_2 + (IntKind.u64.wrap ((rd x5_2 (ji21)) + (IntKind.u64.wrap ((rd l0_0 x22_1) * t198)))))) 1000000000)))));refine store_event (t:=55) (p:=59) (v:=?vo_w31) (w1:=(wr.setCell ⟨go25,((ji21) : Int).toNat,none⟩ (.int .u64 (Int.tmod (IntKind.u64.wrap (x8_2 + (IntKind.u64.wrap ((rd x5_2 (ji21)) + (IntKind.u64.wrap ((rd l0_0 x22_1) * t198)))))) 1000000000)))) ?hg ?ho ?hn ?hr ?_;(case ho=>rfl);(case hg=>rfl);(case hn=>rfl);(case hr=>exact zh);intro w31 hw;have hg : wr.grownBy w31 (some go25):=(by rw [hw];exact HP30.2);have hp_ : Kd.R (Kd.int .u64) 55 w31 w.heap.size (fun _=>True) (.slice (some ⟨go25,0,none⟩) x5_2.length co29) y199:=(by rw [hw,Ny199.out];exact HP30.1);clear HP30;replace BK187:=am (blk_grown (zk BK187.out) hg (Kd.R_ne HO_5.out BK187.out (by decide)));replace BK188:=am (blk_grown (zk BK188.out) hg (Kd.R_ne HO_5.out BK188.out (by decide)));replace BK189:=am (blk_grown (zk BK189.out) hg (Kd.R_ne HO_5.out BK189.out (by decide)));replace HO_5:=am (hp_);replace HB:=am ((by rw [hw];exact below_set (HB.out) GB25.out : Below w.heap.size w w31));clear hg hw hp_)))
             go_roundg k2
             case measure=>have:=HK1.out;have:=HK2.out;omega
             case rel=>exact⟨(y199),(IntKind.u64.wrap (Int.tdiv (IntKind.u64.wrap (x8_2 + (IntKind.u64.wrap ((rd x5_2 (ji21)) + (IntKind.u64.wrap ((rd l0_0 x22_1) * t198)))))) 1000000000)),(wrap64 (x9_2 + 1)),(by first | rfl |(simp;done) |(simp only [← hji21] <;> (first | rfl | simp)) |(simp [*];done)),ze,H',⟨by have:=HK1.out;have:=HK2.out;omega⟩,⟨zR HO_5.out⟩,⟨zk BK187.out⟩,⟨zk BK188.out⟩,⟨zk BK189.out⟩,⟨zb⟩⟩
            ·rw [if_neg c23] at H
             exact absurd H (by simp)
           ·rw [if_neg c22] at H
            exact absurd H (by simp)
          ·rw [if_neg c20] at H
           have c20b0 : decide (x9_2 < (l1_0.length : Int)) = false:=decide_eq_false c20
           clear c20
           by_cases c32 : x8_2 > 0
           ·rw [if_pos c32] at H
            have c32b0 : decide (0 < x8_2) = true:=decide_eq_true c32
            clear c32
            obtain⟨ji33,hji33⟩ : ∃ j_ : Int,(wrap64 (x22_1 + x9_2)) = j_:=⟨_,rfl⟩
            replace H : (if 0≤(ji33) then(if (ji33) < (x5_2.length : Int) then((nat_digits_at.f l1_0 x9_2).bind fun t201=>(nat_number_times.l1 k2 (x5_2.set ((ji33) : Int).toNat (Int.tmod (IntKind.u64.wrap (x8_2 + (IntKind.u64.wrap ((rd x5_2 (ji33)) + (IntKind.u64.wrap ((rd l0_0 x22_1) * t201)))))) 1000000000)) x22_1 (rd l0_0 x22_1) (IntKind.u64.wrap (Int.tdiv (IntKind.u64.wrap (x8_2 + (IntKind.u64.wrap ((rd x5_2 (ji33)) + (IntKind.u64.wrap ((rd l0_0 x22_1) * t201)))))) 1000000000)) (wrap64 (x9_2 + 1)) l0_0 (l0_0.length : Int) x22_1 l1_0)) else(none)) else(none)) = some r:=by first |(rw [hji33] at H;exact H) |(simp only [hji33] at H ⊢;exact H)
            have hji33w : (IntKind.i64.wrap (x22_1 + x9_2)) = ji33:=(i64_w _).trans hji33
            by_cases c34 : 0≤(ji33)
            ·rw [if_pos c34] at H
             have c34b0 : decide (0≤(ji33)) = true:=decide_eq_true c34
             clear c34
             by_cases c35 : (ji33) < (x5_2.length : Int)
             ·rw [if_pos c35] at H
              have c35b0 : decide ((ji33) < (x5_2.length : Int)) = true:=decide_eq_true c35
              clear c35
              replace H:=Option.bind_eq_some_iff.mp H
              obtain⟨t201,A360,H⟩:=H
              try dsimp only at H
              have A36:=am A360
              clear A360
              obtain⟨y202,hy202⟩ : ∃ y_ : List Int,y_ = (x5_2.set ((ji33) : Int).toNat (Int.tmod (IntKind.u64.wrap (x8_2 + (IntKind.u64.wrap ((rd x5_2 (ji33)) + (IntKind.u64.wrap ((rd l0_0 x22_1) * t201)))))) 1000000000)):=⟨_,rfl⟩
              replace H : (nat_number_times.l1 k2 y202 x22_1 (rd l0_0 x22_1) (IntKind.u64.wrap (Int.tdiv (IntKind.u64.wrap (x8_2 + (IntKind.u64.wrap ((rd x5_2 (ji33)) + (IntKind.u64.wrap ((rd l0_0 x22_1) * t201)))))) 1000000000)) (wrap64 (x9_2 + 1)) l0_0 (l0_0.length : Int) x22_1 l1_0) = some r:=by first |(rw [hy202];with_reducible exact H) |(have H2_:=(Option.bind_some _ _).symm.trans H;rw [hy202];with_reducible exact H2_) |(have H2_:=(Option.bind_some _ _).symm.trans H;with_reducible exact H2_) | with_reducible exact H |(rw [hy202];exact H) | exact H
              have Ny202:=am hy202
              clear hy202
              have H':=am H
              clear H
              have hnb38:=NB188_187.out
              have hnc38:=NB187_188.out
              have hnb39:=NB188_189.out
              have hnc39:=NB189_188.out
              have hcz40_0 : wr.cell? ⟨gb188,0,none⟩ = some (.slice A1_0 l1_0.length c1_0):=(blk_cell BK188.out 0).trans rfl
              have hfz40_0:=blk_frozen BK188.out 0
              obtain⟨Ao41,co41,eo41⟩:=Kd.R_slice HO_5.out
              subst eo41
              have p200 : 0≤((ji33) : Int):=of_decide_eq_true za
              have q200 : (ji33) < (x5_2.length : Int):=of_decide_eq_true za
              obtain⟨ad200,e200,hx200_0⟩:=Kd.at_int (Kd.R_reads' HO_5.out).2.2 (ji33) p200 q200
              cases e200
              replace p200:=eq_true p200
              replace q200:=eq_true q200
              go_wp2_with (first |(go_at_call 43;(with_reducible refine(nat_digits_at.calls _ _ l1_0 x9_2 t201 _ ?side1 ?side2 A36.out).mono ?_);(case side1=>repeat (first | exact(Kd.C_below HR1_0.out HB.out) |(with_reducible refine Kd.C_alloc ?_ _) |(with_reducible refine Kd.C_drewN ?_ _) |(with_reducible refine Kd.C_drew ?_)));(case side2=>exact HC1_0.out);rintro e w' ⟨rfl,⟨nd,rfl⟩⟩;(try first | exact⟨rfl,_,World.drewN_drewN _ _ _⟩ | exact⟨rfl,_,Eq.trans (World.drewN_drewN _ _ _) (congrArg (World.drewN _) (Nat.add_assoc _ _ _))⟩);have p37 : 0≤((ji33) : Int):=of_decide_eq_true za;have q37 : ((ji33) : Int) < ((x5_2.length : Int) : Int):=of_decide_eq_true za;obtain⟨go37,co37,eo37,gb37,gl37,cl37,HG37⟩:=Kd.R_form HO_5.out (by omega);(first | cases eo37 |(injection eo37 with ea_ en_ ec_;(first | subst ea_ |(injection ea_ with ea_;subst ea_));subst ec_;clear en_));have GB37:=am gb37;have GG37:=am HG37;clear gb37 gl37 HG37;(first | simp only [add_plain] at hx200_0 | skip);obtain⟨hx37_0,hf37_0⟩:=Kd.R_celln 0 HO_5.out ((ji33) : Int) p37 q37;replace p37:=eq_true p37;replace q37:=eq_true q37;obtain⟨hy42_,hz42_⟩:=Kd.R_celln 0 HO_5.out ((ji33) : Int) (of_decide_eq_true za) (of_decide_eq_true za);have HP42:=Kd.R_putg HO_5.out ((ji33) : Int) (Int.tmod (IntKind.u64.wrap (x8_2 + (IntKind.u64.wrap ((rd x5_2 (ji33)) + (IntKind.u64.wrap ((rd l0_0 x22_1) * t201)))))) 1000000000)) |((with_reducible refine gate_store (t:=55) (p:=59) rfl ?_);(try (rw [drewN_self wr];generalize hq_ : World.drewN wr _ = wr;have n0_:=am (Kd.R_at hq_ HO_5.out);have n1_:=am (blk_at hq_ BK187.out);have n2_:=am (blk_at hq_ BK188.out);have n3_:=am (blk_at hq_ BK189.out);have n4_:=am (below_at hq_ HB.out);clear hq_ HO_5 BK187 BK188 BK189 HB;have HO_5:=n0_;have BK187:=n1_;have BK188:=n2_;have BK189:=n3_;have HB:=n4_;clear n0_ n1_ n2_ n3_ n4_;(try (obtain⟨hy42_,hz42_⟩:=Kd.R_celln 0 HO_5.out ((ji33) : Int) (of_decide_eq_true za) (of_decide_eq_true za)));(try (have HP42:=Kd.R_putg HO_5.out ((ji33) : Int) (Int.tmod (IntKind.u64.wrap (x8_2 + (IntKind.u64.wrap ((rd x5_2 (ji33)) + (IntKind.u64.wrap ((rd l0_0 x22_1) * t201)))))) 1000000000)))));refine store_event (t:=55) (p:=59) (v:=?vo_w43) (w1:=(wr.setCell ⟨go37,((ji33) : Int).toNat,none⟩ (.int .u64 (Int.tmod (IntKind.u64.wrap (x8_2 + (IntKind.u64.wrap ((rd x5_2 (ji33)) + (IntKind.u64.wrap ((rd l0_0 x22_1) * t201)))))) 1000000000)))) ?hg ?ho ?hn ?hr ?_;(case ho=>rfl);(case hg=>rfl);(case hn=>rfl);(case hr=>exact zh);intro w43 hw;have hg : wr.grownBy w43 (some go37):=(by rw [hw];exact HP42.2);have hp_ : Kd.R (Kd.int .u64) 55 w43 w.heap.size (fun _=>True) (.slice (some ⟨go37,0,none⟩) x5_2.length co41) y202:=(by rw [hw,Ny202.out];exact HP42.1);clear HP42;replace BK187:=am (blk_grown (zk BK187.out) hg (Kd.R_ne HO_5.out BK187.out (by decide)));replace BK188:=am (blk_grown (zk BK188.out) hg (Kd.R_ne HO_5.out BK188.out (by decide)));replace BK189:=am (blk_grown (zk BK189.out) hg (Kd.R_ne HO_5.out BK189.out (by decide)));replace HO_5:=am (hp_);replace HB:=am ((by rw [hw];exact below_set (HB.out) GB37.out : Below w.heap.size w w43));clear hg hw hp_))
              repeat (go_quiet (first |(go_at_call 43;(with_reducible refine(nat_digits_at.calls _ _ l1_0 x9_2 t201 _ ?side1 ?side2 A36.out).mono ?_);(case side1=>repeat (first | exact(Kd.C_below HR1_0.out HB.out) |(with_reducible refine Kd.C_alloc ?_ _) |(with_reducible refine Kd.C_drewN ?_ _) |(with_reducible refine Kd.C_drew ?_)));(case side2=>exact HC1_0.out);rintro e w' ⟨rfl,⟨nd,rfl⟩⟩;(try first | exact⟨rfl,_,World.drewN_drewN _ _ _⟩ | exact⟨rfl,_,Eq.trans (World.drewN_drewN _ _ _) (congrArg (World.drewN _) (Nat.add_assoc _ _ _))⟩);have p37 : 0≤((ji33) : Int):=of_decide_eq_true za;have q37 : ((ji33) : Int) < ((x5_2.length : Int) : Int):=of_decide_eq_true za;obtain⟨go37,co37,eo37,gb37,gl37,cl37,HG37⟩:=Kd.R_form HO_5.out (by omega);(first | cases eo37 |(injection eo37 with ea_ en_ ec_;(first | subst ea_ |(injection ea_ with ea_;subst ea_));subst ec_;clear en_));have GB37:=am gb37;have GG37:=am HG37;clear gb37 gl37 HG37;(first | simp only [add_plain] at hx200_0 | skip);obtain⟨hx37_0,hf37_0⟩:=Kd.R_celln 0 HO_5.out ((ji33) : Int) p37 q37;replace p37:=eq_true p37;replace q37:=eq_true q37;obtain⟨hy42_,hz42_⟩:=Kd.R_celln 0 HO_5.out ((ji33) : Int) (of_decide_eq_true za) (of_decide_eq_true za);have HP42:=Kd.R_putg HO_5.out ((ji33) : Int) (Int.tmod (IntKind.u64.wrap (x8_2 + (IntKind.u64.wrap ((rd x5_2 (ji33)) + (IntKind.u64.wrap ((rd l0_0 x22_1) * t201)))))) 1000000000)) |((with_reducible refine gate_store (t:=55) (p:=59) rfl ?_);(try (rw [drewN_self wr];generalize hq_ : World.drewN wr _ = wr;have n0_:=am (Kd.R_at hq_ HO_5.out);have n1_:=am (blk_at hq_ BK187.out);have n2_:=am (blk_at hq_ BK188.out);have n3_:=am (blk_at hq_ BK189.out);have n4_:=am (below_at hq_ HB.out);clear hq_ HO_5 BK187 BK188 BK189 HB;have HO_5:=n0_;have BK187:=n1_;have BK188:=n2_;have BK189:=n3_;have HB:=n4_;clear n0_ n1_ n2_ n3_ n4_;(try (obtain⟨hy42_,hz42_⟩:=Kd.R_celln 0 HO_5.out ((ji33) : Int) (of_decide_eq_true za) (of_decide_eq_true za)));(try (have HP42:=Kd.R_putg HO_5.out ((ji33) : Int) (Int.tmod (IntKind.u64.wrap (x8_2 + (IntKind.u64.wrap ((rd x5_2 (ji33)) + (IntKind.u64.wrap ((rd l0_0 x22_1) * t201)))))) 1000000000)))));refine store_event (t:=55) (p:=59) (v:=?vo_w43) (w1:=(wr.setCell ⟨go37,((ji33) : Int).toNat,none⟩ (.int .u64 (Int.tmod (IntKind.u64.wrap (x8_2 + (IntKind.u64.wrap ((rd x5_2 (ji33)) + (IntKind.u64.wrap ((rd l0_0 x22_1) * t201)))))) 1000000000)))) ?hg ?ho ?hn ?hr ?_;(case ho=>rfl);(case hg=>rfl);(case hn=>rfl);(case hr=>exact zh);intro w43 hw;have hg : wr.grownBy w43 (some go37):=(by rw [hw];exact HP42.2);have hp_ : Kd.R (Kd.int .u64) 55 w43 w.heap.size (fun _=>True) (.slice (some ⟨go37,0,none⟩) x5_2.length co41) y202:=(by rw [hw,Ny202.out];exact HP42.1);clear HP42;replace BK187:=am (blk_grown (zk BK187.out) hg (Kd.R_ne HO_5.out BK187.out (by decide)));replace BK188:=am (blk_grown (zk BK188.out) hg (Kd.R_ne HO_5.out BK188.out (by decide)));replace BK189:=am (blk_grown (zk BK189.out) hg (Kd.R_ne HO_5.out BK189.out (by decide)));replace HO_5:=am (hp_);replace HB:=am ((by rw [hw];exact below_set (HB.out) GB37.out : Below w.heap.size w w43));clear hg hw hp_));try go_wp2_with (first |(go_at_call 43;(with_reducible refine(nat_digits_at.calls _ _ l1_0 x9_2 t201 _ ?side1 ?side2 A36.out).mono ?_);(case side1=>repeat (first | exact(Kd.C_below HR1_0.out HB.out) |(with_reducible refine Kd.C_alloc ?_ _) |(with_reducible refine Kd.C_drewN ?_ _) |(with_reducible refine Kd.C_drew ?_)));(case side2=>exact HC1_0.out);rintro e w' ⟨rfl,⟨nd,rfl⟩⟩;(try first | exact⟨rfl,_,World.drewN_drewN _ _ _⟩ | exact⟨rfl,_,Eq.trans (World.drewN_drewN _ _ _) (congrArg (World.drewN _) (Nat.add_assoc _ _ _))⟩);have p37 : 0≤((ji33) : Int):=of_decide_eq_true za;have q37 : ((ji33) : Int) < ((x5_2.length : Int) : Int):=of_decide_eq_true za;obtain⟨go37,co37,eo37,gb37,gl37,cl37,HG37⟩:=Kd.R_form HO_5.out (by omega);(first | cases eo37 |(injection eo37 with ea_ en_ ec_;(first | subst ea_ |(injection ea_ with ea_;subst ea_));subst ec_;clear en_));have GB37:=am gb37;have GG37:=am HG37;clear gb37 gl37 HG37;(first | simp only [add_plain] at hx200_0 | skip);obtain⟨hx37_0,hf37_0⟩:=Kd.R_celln 0 HO_5.out ((ji33) : Int) p37 q37;replace p37:=eq_true p37;replace q37:=eq_true q37;obtain⟨hy42_,hz42_⟩:=Kd.R_celln 0 HO_5.out ((ji33) : Int) (of_decide_eq_true za) (of_decide_eq_true za);have HP42:=Kd.R_putg HO_5.out ((ji33) : Int) (Int.tmod (IntKind.u64.wrap (x8_2 + (IntKind.u64.wrap ((rd x5_2 (ji33)) + (IntKind.u64.wrap ((rd l0_0 x22_1) * t201)))))) 1000000000)) |((with_reducible refine gate_store (t:=55) (p:=59) rfl ?_);(try (rw [drewN_self wr];generalize hq_ : World.drewN wr _ = wr;have n0_:=am (Kd.R_at hq_ HO_5.out);have n1_:=am (blk_at hq_ BK187.out);have n2_:=am (blk_at hq_ BK188.out);have n3_:=am (blk_at hq_ BK189.out);have n4_:=am (below_at hq_ HB.out);clear hq_ HO_5 BK187 BK188 BK189 HB;have HO_5:=n0_;have BK187:=n1_;have BK188:=n2_;have BK189:=n3_;have HB:=n4_;clear n0_ n1_ n2_ n3_ n4_;(try (obtain⟨hy42_,hz42_⟩:=Kd.R_celln 0 HO_5.out ((ji33) : Int) (of_decide_eq_true za) (of_decide_eq_true za)));(try (have HP42:=Kd.R_putg HO_5.out ((ji33) : Int) (Int.tmod (IntKind.u64.wrap (x8_2 + (IntKind.u64.wrap ((rd x5_2 (ji33)) + (IntKind.u64.wrap ((rd l0_0 x22_1) * t201)))))) 1000000000)))));refine store_event (t:=55) (p:=59) (v:=?vo_w43) (w1:=(wr.setCell ⟨go37,((ji33) : Int).toNat,none⟩ (.int .u64 (Int.tmod (IntKind.u64.wrap (x8_2 + (IntKind.u64.wrap ((rd x5_2 (ji33)) + (IntKind.u64.wrap ((rd l0_0 x22_1) * t201)))))) 1000000000)))) ?hg ?ho ?hn ?hr ?_;(case ho=>rfl);(case hg=>rfl);(case hn=>rfl);(case hr=>exact zh);intro w43 hw;have hg : wr.grownBy w43 (some go37):=(by rw [hw];exact HP42.2);have hp_ : Kd.R (Kd.int .u64) 55 w43 w.heap.size (fun _=>True) (.slice (some ⟨go37,0,none⟩) x5_2.length co41) y202:=(by rw [hw,Ny202.out];exact HP42.1);clear HP42;replace BK187:=am (blk_grown (zk BK187.out) hg (Kd.R_ne HO_5.out BK187.out (by decide)));replace BK188:=am (blk_grown (zk BK188.out) hg (Kd.R_ne HO_5.out BK188.out (by decide)));replace BK189:=am (blk_grown (zk BK189.out) hg (Kd.R_ne HO_5.out BK189.out (by decide)));replace HO_5:=am (hp_);replace HB:=am ((by rw [hw];exact below_set (HB.out) GB37.out : Below w.heap.size w w43));clear hg hw hp_)))
              go_roundg k2
              case measure=>have:=HK1.out;have:=HK2.out;omega
              case rel=>exact⟨(y202),(IntKind.u64.wrap (Int.tdiv (IntKind.u64.wrap (x8_2 + (IntKind.u64.wrap ((rd x5_2 (ji33)) + (IntKind.u64.wrap ((rd l0_0 x22_1) * t201)))))) 1000000000)),(wrap64 (x9_2 + 1)),(by first | rfl |(simp;done) |(simp only [← hji33] <;> (first | rfl | simp)) |(simp [*];done)),ze,H',⟨by have:=HK1.out;have:=HK2.out;omega⟩,⟨zR HO_5.out⟩,⟨zk BK187.out⟩,⟨zk BK188.out⟩,⟨zk BK189.out⟩,⟨zb⟩⟩
             ·rw [if_neg c35] at H
              exact absurd H (by simp)
            ·rw [if_neg c34] at H
             exact absurd H (by simp)
           ·rw [if_neg c32] at H
            have c32b0 : decide (0 < x8_2) = false:=decide_eq_false c32
            clear c32
            have H':=am H
            clear H
            have hnb44:=NB188_187.out
            have hnc44:=NB187_188.out
            have hnb45:=NB188_189.out
            have hnc45:=NB189_188.out
            have hcz46_0 : wr.cell? ⟨gb188,0,none⟩ = some (.slice A1_0 l1_0.length c1_0):=(blk_cell BK188.out 0).trans rfl
            have hfz46_0:=blk_frozen BK188.out 0
            go_wp2
            repeat (go_quiet (fail);try go_wp2)
            go_roundg k2
            case measure=>have:=HK1.out;have:=HK2.out;omega
            case rel=>exact⟨(x5_2),(wrap64 (x22_1 + 1)),ze,H',⟨by have:=HK1.out;have:=HK2.out;omega⟩,⟨zR HO_5.out⟩,⟨zk BK187.out⟩,⟨zk BK188.out⟩,⟨zk BK189.out⟩,⟨zb⟩⟩
       ·rw [if_neg c19] at H
        exact absurd H (by simp)
      ·rw [if_neg c18] at H
       exact absurd H (by simp)
     ·rw [if_neg c17] at H
      have c17b0 : decide (x22_1 < (l0_0.length : Int)) = false:=decide_eq_false c17
      clear c17
      replace H:=Option.bind_eq_some_iff.mp H
      obtain⟨t193,A470,H⟩:=H
      try dsimp only at H
      have A47:=am A470
      clear A470
      obtain rfl:=Option.some.inj H
      obtain⟨Ao48,co48,eo48⟩:=Kd.R_slice HO_5.out
      subst eo48
      go_wp2_with (first |(go_at_call 38;(with_reducible refine(nat_carried.calls k1 _ _ x5_1 t193 _ ?side1 ?side2 A47.out).mono ?_);(case side1=>exact zC (Kd.R_reads' HO_5.out).2.2);(case side2=>exact(Kd.R_reads' HO_5.out).2.1);rintro e w49 ⟨v194,rfl,ho0,hb⟩;have HO195:=am (Kd.R_lower (Kd.R_new' ho0 (Kd.R_lt (zR HO_5.out))) (below_size zb));replace HO_5:=re HO_5 (Kd.R_base ho0) hb;replace BK187:=kb BK187 hb;replace BK188:=kb BK188 hb;replace BK189:=kb BK189 hb;replace HB:=am (below_step zb hb);(try clear hb);(try clear ho0);obtain⟨Ao50,co50,eo50⟩:=Kd.R_slice HO195.out;subst eo50;have hnb51:=NB189_187.out;have hnc51:=NB187_189.out;have hnb52:=NB189_188.out;have hnc52:=NB188_189.out;have hcz53_0 : w49.cell? ⟨gb189,0,none⟩ = some (.slice none 0 0):=(blk_cell BK189.out 0).trans rfl;have hfz53_0:=blk_frozen BK189.out 0))
      repeat (go_quiet (first |(go_at_call 38;(with_reducible refine(nat_carried.calls k1 _ _ x5_1 t193 _ ?side1 ?side2 A47.out).mono ?_);(case side1=>exact zC (Kd.R_reads' HO_5.out).2.2);(case side2=>exact(Kd.R_reads' HO_5.out).2.1);rintro e w49 ⟨v194,rfl,ho0,hb⟩;have HO195:=am (Kd.R_lower (Kd.R_new' ho0 (Kd.R_lt (zR HO_5.out))) (below_size zb));replace HO_5:=re HO_5 (Kd.R_base ho0) hb;replace BK187:=kb BK187 hb;replace BK188:=kb BK188 hb;replace BK189:=kb BK189 hb;replace HB:=am (below_step zb hb);(try clear hb);(try clear ho0);obtain⟨Ao50,co50,eo50⟩:=Kd.R_slice HO195.out;subst eo50;have hnb51:=NB189_187.out;have hnc51:=NB187_189.out;have hnb52:=NB189_188.out;have hnc52:=NB188_189.out;have hcz53_0 : w49.cell? ⟨gb189,0,none⟩ = some (.slice none 0 0):=(blk_cell BK189.out 0).trans rfl;have hfz53_0:=blk_frozen BK189.out 0));try go_wp2_with (first |(go_at_call 38;(with_reducible refine(nat_carried.calls k1 _ _ x5_1 t193 _ ?side1 ?side2 A47.out).mono ?_);(case side1=>exact zC (Kd.R_reads' HO_5.out).2.2);(case side2=>exact(Kd.R_reads' HO_5.out).2.1);rintro e w49 ⟨v194,rfl,ho0,hb⟩;have HO195:=am (Kd.R_lower (Kd.R_new' ho0 (Kd.R_lt (zR HO_5.out))) (below_size zb));replace HO_5:=re HO_5 (Kd.R_base ho0) hb;replace BK187:=kb BK187 hb;replace BK188:=kb BK188 hb;replace BK189:=kb BK189 hb;replace HB:=am (below_step zb hb);(try clear hb);(try clear ho0);obtain⟨Ao50,co50,eo50⟩:=Kd.R_slice HO195.out;subst eo50;have hnb51:=NB189_187.out;have hnc51:=NB187_189.out;have hnb52:=NB189_188.out;have hnc52:=NB188_189.out;have hcz53_0 : w49.cell? ⟨gb189,0,none⟩ = some (.slice none 0 0):=(blk_cell BK189.out 0).trans rfl;have hfz53_0:=blk_frozen BK189.out 0)))
      refine bodyPost_ret (results_cell_row rfl _ _ gb189 47 #[.slice Ao50 t193.length co50] (0,0) _ rfl (by refine zk ?_;refine blk_put (cs:=#[.slice none 0 0]) ?_ 0 _ rfl;refine zk ?_;exact BK189.out) Tryd.underlying47 rfl (by kernel_rfl)) rfl ?_
      exact⟨_,by first | rfl |(simp [errW_none,errW_some] <;> rfl) |(simp only [← hji3];first | rfl |(simp [errW_none,errW_some] <;> rfl)) |(simp [*,errW_none,errW_some] <;> rfl),by refine zR ?_;exact Kd.R_mono (Kd.R_far (p:=⟨gb189,0,none⟩) (Kd.R_types HO195.out BK189.out (by decide)) (fun _ hk=>hk.2) (.slice Ao50 t193.length co50)) (fun _ hk=>trivial),zb⟩
  ·rw [if_neg c5] at H
   exact absurd H (by simp)
 ·rw [if_neg c4] at H
  exact absurd H (by simp)

/-! ### nat_number_scaled: function 49 -/
def nat_number_scaled.f (k : Nat) (l0_0 : List Int) (a1 : Int) : Option (List Int):=(nat_carried.f k (([a1] : List Int))).bind fun t208=>((nat_number_times.f k l0_0 t208).bind fun t211=>(some t211))
theorem nat_number_scaled.calls (k : Nat) (A0_0 : Option Addr) (c0_0 : Nat) (l0_0 : List Int) (a1 : Int) (r : List Int) (w : World) (hr0_0 : Kd.C (Kd.int .u64) w A0_0 l0_0.length l0_0) (hc0_0 : l0_0.length≤c0_0) (h : nat_number_scaled.f k l0_0 a1 = some r) :
  Calls Tryd.prog 49 #[.agg #[.slice A0_0 l0_0.length c0_0],.int .u64 a1] w fun e w'=>∃ v0_ : Value,e = .returned (.agg #[v0_])∧Kd.R (Kd.int .u64) 55 w' w.heap.size (fun _=>True) v0_ r∧Below w.heap.size w w':=by
 have hu47:=Tryd.underlying47
 have HR0_0:=am hr0_0
 have HC0_0:=am hc0_0
 clear hr0_0 hc0_0
 have HB:=am (Below.refl w.heap.size w)
 have H : ((nat_carried.f k (([a1] : List Int))).bind fun t208=>((nat_number_times.f k l0_0 t208).bind fun t211=>(some t211))) = some r:=h
 clear h
 obtain⟨y205,hy205⟩ : ∃ y_ : List Int,y_ = (([a1] : List Int)):=⟨_,rfl⟩
 replace H : ((nat_carried.f k y205).bind fun t208=>((nat_number_times.f k l0_0 t208).bind fun t211=>(some t211))) = some r:=by first |(rw [hy205];with_reducible exact H) |(have H2_:=(Option.bind_some _ _).symm.trans H;rw [hy205];with_reducible exact H2_) |(have H2_:=(Option.bind_some _ _).symm.trans H;with_reducible exact H2_) | with_reducible exact H |(rw [hy205];exact H) | exact H
 have Ny205:=am hy205
 clear hy205
 replace H:=Option.bind_eq_some_iff.mp H
 obtain⟨t208,A30,H⟩:=H
 try dsimp only at H
 have A3:=am A30
 clear A30
 replace H:=Option.bind_eq_some_iff.mp H
 obtain⟨t211,A40,H⟩:=H
 try dsimp only at H
 have A4:=am A40
 clear A40
 obtain rfl:=Option.some.inj H
 go_enter Tryd.func49,Tryd.ntmps49
 try go_wp2_with (first |((with_reducible refine gate_dst (N:=2) rfl ?_);refine box_event ?hg (N:=2) ?hd (cs:=#[.slice A0_0 l0_0.length c0_0]) (t:=47) ?hr ?_;(case hd=>rfl);(case hg=>rfl);(case hr=>exact zh);intro gb203 hg w5 hbox hb;have BK203:=am (hbox);have GW203:=gw w hg;have GE203:=gw w hg;replace HB:=am (below_step zb hb);clear hb hbox hg) |((with_reducible refine gate_dst (N:=4) rfl ?_);refine box_event ?hg (N:=4) ?hd (cs:=#[.slice none 0 0]) (t:=47) ?hr ?_;(case hd=>rfl);(case hg=>rfl);(case hr=>exact zh);intro gb204 hg w6 hbox hb;have BK204:=am (hbox);have GW204:=gw w hg;have GE204:=gw w hg;replace HB:=am (below_step zb hb);have NB203_204:=nl BK203 hg;have NB204_203:=nr BK203 hg;replace BK203:=kb BK203 hb;clear hb hbox hg))
 replace BK203:=am (blk_drew BK203.out)
 replace BK204:=am (blk_drew BK204.out)
 replace HB:=am (below_drew1 HB.out)
 refine start_ (n:=6) (S:=fun w'=>w'.cell? ⟨gb203,0,none⟩ = some (.slice A0_0 l0_0.length c0_0)) (ds:=[]) #[ff,ff,ff,ff,ff,ff] (by kernel_rfl) rfl rfl ((blk_cell BK203.out 0).trans rfl) (fun hHeld=>?_)
 generalize w6.drew = w7 at BK203 BK204 HB hHeld ⊢
 refine pu (i:=1) (N:=some 6) #[ff,tt,ff,ff,ff,ff] (by kernel_rfl) ?_
 refine take_ (i:=0) (N:=some 5) (v:=?_) (a':=?_) #[tt,tt,ff,ff,ff,ff] rfl rfl (by kernel_rfl) (fun _ _ _ h=>h) (Or.inl ⟨by rfl,?_⟩) hHeld ?_ ?_
 rotate_left
 ·intro w' s0
  go_simp
  with_reducible rfl
 rotate_left
 ·simp only [Act.put,sA,sZ,sS,i64_w,i32_w]
  rfl
 refine one_ (i:=2) (N:=some 7) #[tt,tt,tt,ff,ff,ff] rfl rfl (by kernel_rfl) (by decide) (fun K hK=>?_)
 refine Kd.R_lit_step (Kd.int .u64) _ 55 ?hg (N:=7) ?hd (xs:=([a1] : List Int)) (inner:=[.int .u64 a1]) (ok:=fun _=>True) (okp:=fun _=>True) ?hr ?hp (fun _ hk=>hk) trivial (Below.refl _ _) (Nat.le_refl _) (by simp) ?_;(case hd=>rfl);(case hg=>rfl);(case hr=>exact zh);(case hp=>exact(Reps.one (show Kd.M (Kd.int .u64) _ _ _ a1 [.int .u64 a1] from rfl) (Reps.none _ _)))
 intro v206 w8 ho9 hb hg_ hnew_
 clear hg_ hnew_
 (first | rw [← Ny205.out] at ho9 |(simp only [Int.reduceToNat] at ho9;rw [← Ny205.out] at ho9))
 have HO207:=am (Kd.R_lower ho9 (below_size zb))
 replace BK203:=kb BK203 hb
 replace BK204:=kb BK204 hb
 replace HB:=am (below_step zb hb)
 clear hb ho9
 obtain⟨Ao10,co10,eo10⟩:=Kd.R_slice HO207.out
 (first | subst eo10 |(injection eo10 with f1_ f2_ f3_;have f4_:=f1_.symm;have f5_:=f3_.symm;clear f1_ f2_ f3_;subst f4_;subst f5_))
 refine hK.out _ _ ((blk_cell BK203.out 0).trans rfl) (fun hHeld=>?_)
 clear hK K
 refine norm_ (a':=?_) ?_ ?_
 rotate_left
 ·show Act.put _ (some 7) _ = _
  simp only [Act.put,sA,sZ,sS,i64_w,i32_w]
  rfl
 refine one_ (i:=3) (N:=some 8) #[tt,tt,tt,tt,ff,ff] rfl rfl (by kernel_rfl) (by decide) (fun K hK=>?_)
 refine goes_ Tryd.func38 (by kernel_rfl) rfl #[.slice Ao10 y205.length co10] (by rfl) rfl rfl zl ?_
 with_reducible refine(nat_carried.calls k _ _ y205 t208 _ ?side1 ?side2 A3.out).mono ?_
 (case side1=>exact zC (Kd.R_reads' HO207.out).2.2)
 (case side2=>exact(Kd.R_reads' HO207.out).2.1)
 rintro e w11 ⟨v209,rfl,ho0,hb⟩
 refine⟨_,rfl,?_⟩
 have HO210:=am (Kd.R_lower (Kd.R_new' ho0 (Kd.R_lt (zR HO207.out))) (below_size zb))
 replace HO207:=re HO207 (Kd.R_base ho0) hb
 replace BK203:=kb BK203 hb
 replace BK204:=kb BK204 hb
 replace HB:=am (below_step zb hb)
 (try clear hb)
 (try clear hb2)
 (try clear hk)
 (try clear hi)
 (try clear ho0)
 obtain⟨Ao12,co12,eo12⟩:=Kd.R_slice HO210.out
 (first | subst eo12 |(injection eo12 with f1_ f2_ f3_;have f4_:=f1_.symm;have f5_:=f3_.symm;clear f1_ f2_ f3_;subst f4_;subst f5_))
 refine hK.out _ _ ((blk_cell BK203.out 0).trans rfl) (fun hHeld=>?_)
 clear hK K
 refine norm_ (a':=?_) ?_ ?_
 rotate_left
 ·show Act.put _ (some 8) _ = _
  simp only [Act.put,sA,sZ,sS,i64_w,i32_w]
  rfl
 refine one_ (i:=4) (N:=some 9) #[tt,tt,tt,tt,tt,ff] rfl rfl (by kernel_rfl) (by decide) (fun K hK=>?_)
 refine goes_ Tryd.func29 (by kernel_rfl) rfl #[.agg #[.slice A0_0 l0_0.length c0_0],.agg #[.slice Ao12 t208.length co12]] (by rfl) rfl rfl zl ?_
 with_reducible refine(nat_number_times.calls k _ _ l0_0 _ _ t208 t211 _ ?side1 ?side2 ?side3 ?side4 A4.out).mono ?_
 (case side1=>repeat (first | exact(Kd.C_below HR0_0.out HB.out) |(with_reducible refine Kd.C_alloc ?_ _) |(with_reducible refine Kd.C_drewN ?_ _) |(with_reducible refine Kd.C_drew ?_)))
 (case side2=>exact HC0_0.out)
 (case side3=>exact zC (Kd.R_reads' HO210.out).2.2)
 (case side4=>exact(Kd.R_reads' HO210.out).2.1)
 rintro e w13 ⟨v212,rfl,ho0,hb⟩
 refine⟨_,rfl,?_⟩
 have HO213:=am (Kd.R_lower (Kd.R_new' (Kd.R_new' ho0 (Kd.R_lt (zR HO207.out))) (Kd.R_lt (zR HO210.out))) (below_size zb))
 replace HO207:=re HO207 (Kd.R_base ho0) hb
 replace HO210:=re HO210 (Kd.R_base ho0) hb
 replace BK203:=kb BK203 hb
 replace BK204:=kb BK204 hb
 replace HB:=am (below_step zb hb)
 (try clear hb)
 (try clear hb2)
 (try clear hk)
 (try clear hi)
 (try clear ho0)
 obtain⟨Ao14,co14,eo14⟩:=Kd.R_slice HO213.out
 (first | subst eo14 |(injection eo14 with f1_ f2_ f3_;have f4_:=f1_.symm;have f5_:=f3_.symm;clear f1_ f2_ f3_;subst f4_;subst f5_))
 refine hK.out _ _ ((blk_cell BK203.out 0).trans rfl) (fun hHeld=>?_)
 clear hK K
 refine norm_ (a':=?_) ?_ ?_
 rotate_left
 ·show Act.put _ (some 9) _ = _
  simp only [Act.put,sA,sZ,sS,i64_w,i32_w]
  rfl
 refine one_ (i:=5) (N:=none) #[tt,tt,tt,tt,tt,tt] rfl rfl (by kernel_rfl) (by decide) (fun K hK=>?_)
 have hs15 : w13.cell? ⟨gb204,0,none⟩ = some (.slice none 0 0):=(blk_cell BK204.out 0).trans rfl
 have hfs15:=blk_frozen BK204.out 0
 have hns15_0:=NB203_204.out
 have hms15_0:=NB204_203.out
 refine skip_ (w1:=?_) (by rfl) rfl ?_ ?_
 rotate_left
 ·go_simp
  rfl
 refine hK.out _ _ (((cell_far (p:=⟨gb204,_,none⟩) NB203_204.out _).trans (hHeld))) (fun hHeld=>?_)
 clear hK K
 refine done_ (by kernel_rfl) ?_
 try go_wp2
 refine bodyPost_ret (results_cell_row rfl _ _ gb204 47 #[.slice Ao14 t211.length co14] (0,0) _ rfl (by refine zk ?_;refine blk_put (cs:=#[.slice none 0 0]) ?_ 0 _ rfl;refine zk ?_;exact BK204.out) Tryd.underlying47 rfl (by kernel_rfl)) rfl ?_
 exact⟨_,zf,by refine zR ?_;exact Kd.R_mono (Kd.R_far (p:=⟨gb204,0,none⟩) (Kd.R_types HO213.out BK204.out (by decide)) (fun _ hk=>hk.2) (.slice Ao14 t211.length co14)) (fun _ hk=>trivial),zb⟩

/-! ### nat_number_digit: function 48 -/
def nat_number_digit.l0 : Nat→Int→Int→List Int→List Int→Option (Int)
 | 0,_,_,_,_=>none
 | k + 1,x5,x6,x215000,x216000=>if x5 < x6 then((nat_number_scaled.f k x216000 (IntKind.u64.wrap (Int.tdiv (IntKind.u64.wrap ((IntKind.u64.wrap (x5 + x6)) + 1)) 2))).bind fun t216=>((nat_number_compare.f k t216 x215000).bind fun t219=>(if t219≤0 then(nat_number_digit.l0 k (IntKind.u64.wrap (Int.tdiv (IntKind.u64.wrap ((IntKind.u64.wrap (x5 + x6)) + 1)) 2)) x6 x215000 x216000) else(nat_number_digit.l0 k x5 (IntKind.u64.wrap ((IntKind.u64.wrap (Int.tdiv (IntKind.u64.wrap ((IntKind.u64.wrap (x5 + x6)) + 1)) 2)) - 1)) x215000 x216000)))) else(some x5)
def nat_number_digit.f (k : Nat) (l0_0 : List Int) (l1_0 : List Int) : Option (Int):=nat_number_digit.l0 k 0 999999999 l0_0 l1_0
theorem nat_number_digit.calls (k : Nat) (A0_0 : Option Addr) (c0_0 : Nat) (l0_0 : List Int) (A1_0 : Option Addr) (c1_0 : Nat) (l1_0 : List Int) (r : Int) (w : World) (hr0_0 : Kd.C (Kd.int .u64) w A0_0 l0_0.length l0_0) (hc0_0 : l0_0.length≤c0_0) (hr1_0 : Kd.C (Kd.int .u64) w A1_0 l1_0.length l1_0) (hc1_0 : l1_0.length≤c1_0) (h : nat_number_digit.f k l0_0 l1_0 = some r) :
  Calls Tryd.prog 48 #[.agg #[.slice A0_0 l0_0.length c0_0],.agg #[.slice A1_0 l1_0.length c1_0]] w fun e w'=>e = .returned (.int .u64 r)∧Below w.heap.size w w':=by
 have hu47:=Tryd.underlying47
 have HR0_0:=am hr0_0
 have HC0_0:=am hc0_0
 clear hr0_0 hc0_0
 have HR1_0:=am hr1_0
 have HC1_0:=am hc1_0
 clear hr1_0 hc1_0
 have HB:=am (Below.refl w.heap.size w)
 have H : (nat_number_digit.l0 k 0 999999999 l0_0 l1_0) = some r:=h
 clear h
 have H':=am H
 clear H
 go_enter Tryd.func48,Tryd.ntmps48
 go_wp2_with (first |((with_reducible refine gate_dst (N:=2) rfl ?_);refine box_event ?hg (N:=2) ?hd (cs:=#[.slice A0_0 l0_0.length c0_0]) (t:=47) ?hr ?_;(case hd=>rfl);(case hg=>rfl);(case hr=>exact zh);intro gb214 hg w3 hbox hb;have BK214:=am (hbox);have GW214:=gw w hg;have GE214:=gw w hg;replace HB:=am (below_step zb hb);clear hb hbox hg) |((with_reducible refine gate_dst (N:=3) rfl ?_);refine box_event ?hg (N:=3) ?hd (cs:=#[.slice A1_0 l1_0.length c1_0]) (t:=47) ?hr ?_;(case hd=>rfl);(case hg=>rfl);(case hr=>exact zh);intro gb215 hg w4 hbox hb;have BK215:=am (hbox);have GW215:=gw w hg;have GE215:=gw w hg;replace HB:=am (below_step zb hb);have NB214_215:=nl BK214 hg;have NB215_214:=nr BK214 hg;replace BK214:=kb BK214 hb;clear hb hbox hg))
 go_loopg [5,6] k (fun kq v5 v6 w'=>∃ (x5_1 : Int) (x6_1 : Int),v5 = .int .u64 x5_1∧v6 = .int .u64 x6_1∧Aside0 (nat_number_digit.l0 kq x5_1 x6_1 l0_0 l1_0 = some r)∧Aside0 (kq≤k)∧Aside0 (w'.heap[gb214]? = some (.cells #[(.slice A0_0 l0_0.length c0_0)] 47 (0,0)))∧Aside0 (w'.heap[gb215]? = some (.cells #[(.slice A1_0 l1_0.length c1_0)] 47 (0,0)))∧Aside0 (Below w.heap.size w w'))
 case atStart=>exact⟨(0),(999999999),ze,ze,H',⟨Nat.le_refl _⟩,⟨zk BK214.out⟩,⟨zk BK215.out⟩,⟨zb⟩⟩
 case round=>
  clear H'
  try clear c1
  try clear p2
  try clear c4
  obtain⟨x5_1,x6_1,rfl,rfl,HA,HK1,BK214,BK215,HB⟩:=hrel
  cases gk with
  | zero=>exact absurd HA.out (by simp [nat_number_digit.l0])
  | succ k1=>
   have H:=HA.out
   clear HA
   simp only [nat_number_digit.l0] at H
   by_cases c5 : x5_1 < x6_1
   ·rw [if_pos c5] at H
    have c5b0 : decide (x5_1 < x6_1) = true:=decide_eq_true c5
    clear c5
    replace H:=Option.bind_eq_some_iff.mp H
    obtain⟨t216,A60,H⟩:=H
    try dsimp only at H
    have A6:=am A60
    clear A60
    replace H:=Option.bind_eq_some_iff.mp H
    obtain⟨t219,A70,H⟩:=H
    try dsimp only at H
    have A7:=am A70
    clear A70
    by_cases c8 : t219≤0
    ·rw [if_pos c8] at H
     have c8b0 : decide (t219≤0) = true:=decide_eq_true c8
     clear c8
     have H':=am H
     clear H
     try go_wp2
     replace BK214:=am (blk_drew BK214.out)
     replace BK215:=am (blk_drew BK215.out)
     replace HB:=am (below_drew1 HB.out)
     refine start_ (n:=6) (S:=fun w'=>w'.cell? ⟨gb215,0,none⟩ = some (.slice A1_0 l1_0.length c1_0)∧w'.cell? ⟨gb214,0,none⟩ = some (.slice A0_0 l0_0.length c0_0)) (ds:=[]) #[ff,ff,ff,ff,ff,ff] (by kernel_rfl) rfl rfl ⟨(blk_cell BK215.out 0).trans rfl,(blk_cell BK214.out 0).trans rfl⟩ (fun hHeld=>?_)
     generalize wr.drew = w9 at BK214 BK215 HB hHeld ⊢
     refine pu (i:=1) (N:=some 17) #[ff,tt,ff,ff,ff,ff] (by kernel_rfl) ?_
     refine take_ (i:=0) (N:=some 16) (v:=?_) (a':=?_) #[tt,tt,ff,ff,ff,ff] rfl rfl (by kernel_rfl) (fun _ _ _ h=>h) (Or.inl ⟨by rfl,?_⟩) hHeld ?_ ?_
     rotate_left
     ·rintro w' ⟨s0,s1⟩
      go_simp
      with_reducible rfl
     rotate_left
     ·simp only [Act.put,sA,sZ,sS,i64_w,i32_w]
      rfl
     refine take_ (i:=3) (N:=some 19) (v:=?_) (a':=?_) #[tt,tt,ff,tt,ff,ff] rfl rfl (by kernel_rfl) (fun _ _ _ h=>h) (Or.inl ⟨by rfl,?_⟩) hHeld ?_ ?_
     rotate_left
     ·rintro w' ⟨s0,s1⟩
      go_simp
      with_reducible rfl
     rotate_left
     ·simp only [Act.put,sA,sZ,sS,i64_w,i32_w]
      rfl
     refine one_ (i:=2) (N:=some 18) #[tt,tt,tt,tt,ff,ff] rfl rfl (by kernel_rfl) (by decide) (fun K hK=>?_)
     refine goes_ Tryd.func49 (by kernel_rfl) rfl #[.agg #[.slice A1_0 l1_0.length c1_0],.int .u64 (IntKind.u64.wrap (Int.tdiv (IntKind.u64.wrap ((IntKind.u64.wrap (x5_1 + x6_1)) + 1)) 2))] (by rfl) rfl rfl zl ?_
     with_reducible refine(nat_number_scaled.calls k1 _ _ l1_0 (IntKind.u64.wrap (Int.tdiv (IntKind.u64.wrap ((IntKind.u64.wrap (x5_1 + x6_1)) + 1)) 2)) t216 _ ?side1 ?side2 A6.out).mono ?_
     (case side1=>repeat (first | exact(Kd.C_below HR1_0.out HB.out) |(with_reducible refine Kd.C_alloc ?_ _) |(with_reducible refine Kd.C_drewN ?_ _) |(with_reducible refine Kd.C_drew ?_)))
     (case side2=>exact HC1_0.out)
     rintro e w10 ⟨v217,rfl,ho0,hb⟩
     refine⟨_,rfl,?_⟩
     have HO218:=am (Kd.R_lower ho0 (below_size zb))
     replace BK214:=kb BK214 hb
     replace BK215:=kb BK215 hb
     replace HB:=am (below_step zb hb)
     (try clear hb)
     (try clear hb2)
     (try clear hk)
     (try clear hi)
     (try clear ho0)
     obtain⟨Ao11,co11,eo11⟩:=Kd.R_slice HO218.out
     (first | subst eo11 |(injection eo11 with f1_ f2_ f3_;have f4_:=f1_.symm;have f5_:=f3_.symm;clear f1_ f2_ f3_;subst f4_;subst f5_))
     refine hK.out _ _ ⟨(blk_cell BK215.out 0).trans rfl,(blk_cell BK214.out 0).trans rfl⟩ (fun hHeld=>?_)
     clear hK K
     refine norm_ (a':=?_) ?_ ?_
     rotate_left
     ·show Act.put _ (some 18) _ = _
      simp only [Act.put,sA,sZ,sS,i64_w,i32_w]
      rfl
     refine one_ (i:=4) (N:=some 20) #[tt,tt,tt,tt,tt,ff] rfl rfl (by kernel_rfl) (by decide) (fun K hK=>?_)
     refine goes_ Tryd.func32 (by kernel_rfl) rfl #[.agg #[.slice Ao11 t216.length co11],.agg #[.slice A0_0 l0_0.length c0_0]] (by rfl) rfl rfl zl ?_
     with_reducible refine(nat_number_compare.calls k1 _ _ t216 _ _ l0_0 t219 _ ?side1 ?side2 ?side3 ?side4 A7.out).mono ?_
     (case side1=>exact zC (Kd.R_reads' HO218.out).2.2)
     (case side2=>exact(Kd.R_reads' HO218.out).2.1)
     (case side3=>repeat (first | exact(Kd.C_below HR0_0.out HB.out) |(with_reducible refine Kd.C_alloc ?_ _) |(with_reducible refine Kd.C_drewN ?_ _) |(with_reducible refine Kd.C_drew ?_)))
     (case side4=>exact HC0_0.out)
     rintro e w12 ⟨rfl,hb⟩
     refine⟨_,rfl,?_⟩
     replace HO218:=rb HO218 hb
     replace BK214:=kb BK214 hb
     replace BK215:=kb BK215 hb
     replace HB:=am (below_step zb hb)
     (try clear hb)
     (try clear hb2)
     (try clear hk)
     (try clear hi)
     refine hK.out _ _ ⟨(blk_cell BK215.out 0).trans rfl,(blk_cell BK214.out 0).trans rfl⟩ (fun hHeld=>?_)
     clear hK K
     refine norm_ (a':=?_) ?_ ?_
     rotate_left
     ·show Act.put _ (some 20) _ = _
      simp only [Act.put,sA,sZ,sS,i64_w,i32_w]
      rfl
     refine pu (i:=5) (N:=some 21) #[tt,tt,tt,tt,tt,tt] (by kernel_rfl) ?_
     refine done_ (by kernel_rfl) ?_
     try go_wp2
     go_roundg k1
     case measure=>have:=HK1.out;omega
     case rel=>exact⟨(IntKind.u64.wrap (Int.tdiv (IntKind.u64.wrap ((IntKind.u64.wrap (x5_1 + x6_1)) + 1)) 2)),(x6_1),ze,ze,H',⟨by have:=HK1.out;omega⟩,⟨zk BK214.out⟩,⟨zk BK215.out⟩,⟨zb⟩⟩
    ·rw [if_neg c8] at H
     have c8b0 : decide (t219≤0) = false:=decide_eq_false c8
     clear c8
     have H':=am H
     clear H
     try go_wp2
     replace BK214:=am (blk_drew BK214.out)
     replace BK215:=am (blk_drew BK215.out)
     replace HB:=am (below_drew1 HB.out)
     refine start_ (n:=6) (S:=fun w'=>w'.cell? ⟨gb215,0,none⟩ = some (.slice A1_0 l1_0.length c1_0)∧w'.cell? ⟨gb214,0,none⟩ = some (.slice A0_0 l0_0.length c0_0)) (ds:=[]) #[ff,ff,ff,ff,ff,ff] (by kernel_rfl) rfl rfl ⟨(blk_cell BK215.out 0).trans rfl,(blk_cell BK214.out 0).trans rfl⟩ (fun hHeld=>?_)
     generalize wr.drew = w13 at BK214 BK215 HB hHeld ⊢
     refine pu (i:=1) (N:=some 17) #[ff,tt,ff,ff,ff,ff] (by kernel_rfl) ?_
     refine take_ (i:=0) (N:=some 16) (v:=?_) (a':=?_) #[tt,tt,ff,ff,ff,ff] rfl rfl (by kernel_rfl) (fun _ _ _ h=>h) (Or.inl ⟨by rfl,?_⟩) hHeld ?_ ?_
     rotate_left
     ·rintro w' ⟨s0,s1⟩
      go_simp
      with_reducible rfl
     rotate_left
     ·simp only [Act.put,sA,sZ,sS,i64_w,i32_w]
      rfl
     refine take_ (i:=3) (N:=some 19) (v:=?_) (a':=?_) #[tt,tt,ff,tt,ff,ff] rfl rfl (by kernel_rfl) (fun _ _ _ h=>h) (Or.inl ⟨by rfl,?_⟩) hHeld ?_ ?_
     rotate_left
     ·rintro w' ⟨s0,s1⟩
      go_simp
      with_reducible rfl
     rotate_left
     ·simp only [Act.put,sA,sZ,sS,i64_w,i32_w]
      rfl
     refine one_ (i:=2) (N:=some 18) #[tt,tt,tt,tt,ff,ff] rfl rfl (by kernel_rfl) (by decide) (fun K hK=>?_)
     refine goes_ Tryd.func49 (by kernel_rfl) rfl #[.agg #[.slice A1_0 l1_0.length c1_0],.int .u64 (IntKind.u64.wrap (Int.tdiv (IntKind.u64.wrap ((IntKind.u64.wrap (x5_1 + x6_1)) + 1)) 2))] (by rfl) rfl rfl zl ?_
     with_reducible refine(nat_number_scaled.calls k1 _ _ l1_0 (IntKind.u64.wrap (Int.tdiv (IntKind.u64.wrap ((IntKind.u64.wrap (x5_1 + x6_1)) + 1)) 2)) t216 _ ?side1 ?side2 A6.out).mono ?_
     (case side1=>repeat (first | exact(Kd.C_below HR1_0.out HB.out) |(with_reducible refine Kd.C_alloc ?_ _) |(with_reducible refine Kd.C_drewN ?_ _) |(with_reducible refine Kd.C_drew ?_)))
     (case side2=>exact HC1_0.out)
     rintro e w14 ⟨v217,rfl,ho0,hb⟩
     refine⟨_,rfl,?_⟩
     have HO218:=am (Kd.R_lower ho0 (below_size zb))
     replace BK214:=kb BK214 hb
     replace BK215:=kb BK215 hb
     replace HB:=am (below_step zb hb)
     (try clear hb)
     (try clear hb2)
     (try clear hk)
     (try clear hi)
     (try clear ho0)
     obtain⟨Ao15,co15,eo15⟩:=Kd.R_slice HO218.out
     (first | subst eo15 |(injection eo15 with f1_ f2_ f3_;have f4_:=f1_.symm;have f5_:=f3_.symm;clear f1_ f2_ f3_;subst f4_;subst f5_))
     refine hK.out _ _ ⟨(blk_cell BK215.out 0).trans rfl,(blk_cell BK214.out 0).trans rfl⟩ (fun hHeld=>?_)
     clear hK K
     refine norm_ (a':=?_) ?_ ?_
     rotate_left
     ·show Act.put _ (some 18) _ = _
      simp only [Act.put,sA,sZ,sS,i64_w,i32_w]
      rfl
     refine one_ (i:=4) (N:=some 20) #[tt,tt,tt,tt,tt,ff] rfl rfl (by kernel_rfl) (by decide) (fun K hK=>?_)
     refine goes_ Tryd.func32 (by kernel_rfl) rfl #[.agg #[.slice Ao15 t216.length co15],.agg #[.slice A0_0 l0_0.length c0_0]] (by rfl) rfl rfl zl ?_
     with_reducible refine(nat_number_compare.calls k1 _ _ t216 _ _ l0_0 t219 _ ?side1 ?side2 ?side3 ?side4 A7.out).mono ?_
     (case side1=>exact zC (Kd.R_reads' HO218.out).2.2)
     (case side2=>exact(Kd.R_reads' HO218.out).2.1)
     (case side3=>repeat (first | exact(Kd.C_below HR0_0.out HB.out) |(with_reducible refine Kd.C_alloc ?_ _) |(with_reducible refine Kd.C_drewN ?_ _) |(with_reducible refine Kd.C_drew ?_)))
     (case side4=>exact HC0_0.out)
     rintro e w16 ⟨rfl,hb⟩
     refine⟨_,rfl,?_⟩
     replace HO218:=rb HO218 hb
     replace BK214:=kb BK214 hb
     replace BK215:=kb BK215 hb
     replace HB:=am (below_step zb hb)
     (try clear hb)
     (try clear hb2)
     (try clear hk)
     (try clear hi)
     refine hK.out _ _ ⟨(blk_cell BK215.out 0).trans rfl,(blk_cell BK214.out 0).trans rfl⟩ (fun hHeld=>?_)
     clear hK K
     refine norm_ (a':=?_) ?_ ?_
     rotate_left
     ·show Act.put _ (some 20) _ = _
      simp only [Act.put,sA,sZ,sS,i64_w,i32_w]
      rfl
     refine pu (i:=5) (N:=some 21) #[tt,tt,tt,tt,tt,tt] (by kernel_rfl) ?_
     refine done_ (by kernel_rfl) ?_
     try go_wp2
     go_roundg k1
     case measure=>have:=HK1.out;omega
     case rel=>exact⟨(x5_1),(IntKind.u64.wrap ((IntKind.u64.wrap (Int.tdiv (IntKind.u64.wrap ((IntKind.u64.wrap (x5_1 + x6_1)) + 1)) 2)) - 1)),ze,ze,H',⟨by have:=HK1.out;omega⟩,⟨zk BK214.out⟩,⟨zk BK215.out⟩,⟨zb⟩⟩
   ·rw [if_neg c5] at H
    have c5b0 : decide (x5_1 < x6_1) = false:=decide_eq_false c5
    clear c5
    obtain rfl:=Option.some.inj H
    go_wp2
    go_ret
    exact⟨zf,zb⟩

end Go.Proofs.YtnkkndninilciaaDoor.X

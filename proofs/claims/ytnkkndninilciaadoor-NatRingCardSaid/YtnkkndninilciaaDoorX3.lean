-- Printed by xprint.py, this session's own program (wip/tool), out of the translation. Lean checks it.
import Derived.Test.YtnkkndninilciaaDoorZ
import Derived.Test.YtnkkndninilciaaDoorX0
import Derived.Test.YtnkkndninilciaaDoorX1
import Derived.Test.YtnkkndninilciaaDoorX2
namespace Go.Proofs.YtnkkndninilciaaDoor.X
open Go.Proofs.YtnkkndninilciaaDoor.Z
open Go.RowKit Go.Proofs.YtnkkndninilciaaDoorW.PrintWords Go.Proofs.YtnkkndninilciaaDoorW.PrintLast Go.Proofs.YtnkkndninilciaaDoorW.PrintMore
open List renaming setIfInBounds_toArray → sA, set_cons_zero → sZ, set_cons_succ → sS
open Aside0 renaming mk → am
open Bool renaming true → tt, false → ff
set_option maxHeartbeats 8000000
set_option maxRecDepth 100000
attribute [local go_sem] max2_int min2_int max_two min_two max_three min_three max_four min_four   -- for this text's walks alone
set_option linter.unusedVariables false
set_option linter.unusedSimpArgs false

/-! ### nat_Add: function 11 -/
def nat_Add.f (k : Nat) (l0 : List (List Int)) : Option (List Int):=(nat_folded_at_nat_number_plus.f k ([] : List Int) l0).bind fun t162=>(some t162)
theorem nat_Add.calls (k : Nat) (A0 : Option Addr) (c0 : Nat) (l0 : List (List Int)) (r : List Int) (w : World) (hr0 : Kd.C (Kd.slice 32 (Kd.int .u32)) w A0 l0.length l0) (hc0 : l0.length≤c0) (h : nat_Add.f k l0 = some r) :
  Calls Tryd.prog 11 #[.slice A0 l0.length c0] w fun e w'=>∃ v0_ : Value,e = .returned (v0_)∧Kd.V (Kd.int .u32) 32 w' w.heap.size (fun k_=>(w.heap.size≤k_)) v0_ r∧Below w.heap.size w w':=by
 have hu47:=Tryd.underlying47
 have HR0:=am hr0
 have HC0:=am hc0
 clear hr0 hc0
 have HB:=am (Below.refl w.heap.size w)
 have H : ((nat_folded_at_nat_number_plus.f k ([] : List Int) l0).bind fun t162=>(some t162)) = some r:=h
 clear h
 replace H:=Option.bind_eq_some_iff.mp H
 obtain⟨t162,A20,H⟩:=H
 try dsimp only at H
 have A2:=am A20
 clear A20
 obtain rfl:=Option.some.inj H
 go_enter Tryd.func11,Tryd.ntmps11
 go_wp2_with (first |((with_reducible refine gate_callee (f:=24) rfl ?_);refine goesL_ (some 5) rfl rfl Tryd.func24 (by kernel_rfl) rfl #[.agg #[.slice none 0 0],.func (.func 25) #[] #[],.slice A0 l0.length c0] rfl zl ?_;(refine(nat_folded_at_nat_number_plus.calls k (fun k_=>some k_ = (.slice none 0 0 : Value).ownBlock) (.slice none 0 0) ([] : List Int)  _ _ l0 t162 w _ ?side1 ?side2 ?side3 ?side4 A2.out).mono ?_);(case side1=>repeat (first |(with_reducible first | exact HB.out | apply below_alloc | apply pw_below_drewN | apply below_drew1) | exact HB.out));(case side2=>exact Kd.R_nil _ _ _ _ _);(case side3=>exact Kd.C_kept_came (Kd.heap_slice 32 (Kd.heap_int .u32)) HR0.out zb (fun k_ hs_=>(fun e_=>by simp [Value.ownBlock] at e_) hs_));(case side4=>exact HC0.out);rintro e w3 ⟨v163,rfl,ho0,hb,hkp⟩;refine⟨_,rfl,?_⟩;have HO164:=am (Kd.R_mono (ok':=fun k_=>(w.heap.size≤k_)) ho0 (fun k_ hk_=>Or.elim hk_ (fun hs_=>absurd hs_ (by simp [Value.ownBlock])) (fun hn_=>(Nat.le_trans (below_size zb) hn_))));replace HB:=am (hb);(try clear hb);(try clear hkp);(try clear ho0)))
 go_ret
 exact⟨_,zf,Kd.R_V (zR HO164.out),zb⟩

/-! ### nat_number_less: function 33 -/
def nat_number_less.l0 : Nat→List Int→Int→Int→Int→List Int→List Int→Option (List Int)
 | 0,_,_,_,_,_,_=>none
 | k + 1,x5,x6,x14,x15,x166000,x167000=>if x15 < x14 then((nat_digits_at.f x166000 x15).bind fun t171=>((nat_digits_at.f x167000 x15).bind fun t172=>(if 0≤x15 then(if x15 < (x5.length : Int) then(nat_number_less.l0 k (x5.set (x15 : Int).toNat (Int.tmod (IntKind.u64.wrap ((IntKind.u64.wrap ((IntKind.u64.wrap (t171 + 1000000000)) - t172)) - x6)) 1000000000)) (IntKind.u64.wrap (1 - (IntKind.u64.wrap (Int.tdiv (IntKind.u64.wrap ((IntKind.u64.wrap ((IntKind.u64.wrap (t171 + 1000000000)) - t172)) - x6)) 1000000000)))) x14 (wrap64 (x15 + 1)) x166000 x167000) else(none)) else(none)))) else((nat_carried.f k x5).bind fun t174=>(some t174))
def nat_number_less.f (k : Nat) (l0_0 : List Int) (l1_0 : List Int) : Option (List Int):=if 0≤(l0_0.length : Int) then(if ((l0_0.length : Int) : Int).toNat≤35184372088832 then((some (List.replicate ((l0_0.length : Int) : Int).toNat 0 : List Int)).bind fun y168=>(nat_number_less.l0 k y168 0 (y168.length : Int) 0 l0_0 l1_0)) else(none)) else(none)
theorem nat_number_less.calls (k : Nat) (A0_0 : Option Addr) (c0_0 : Nat) (l0_0 : List Int) (A1_0 : Option Addr) (c1_0 : Nat) (l1_0 : List Int) (r : List Int) (w : World) (hr0_0 : Kd.C (Kd.int .u64) w A0_0 l0_0.length l0_0) (hc0_0 : l0_0.length≤c0_0) (hr1_0 : Kd.C (Kd.int .u64) w A1_0 l1_0.length l1_0) (hc1_0 : l1_0.length≤c1_0) (h : nat_number_less.f k l0_0 l1_0 = some r) :
  Calls Tryd.prog 33 #[.agg #[.slice A0_0 l0_0.length c0_0],.agg #[.slice A1_0 l1_0.length c1_0]] w fun e w'=>∃ v0_ : Value,e = .returned (.agg #[v0_])∧Kd.R (Kd.int .u64) 55 w' w.heap.size (fun _=>True) v0_ r∧Below w.heap.size w w':=by
 have hu47:=Tryd.underlying47
 have HR0_0:=am hr0_0
 have HC0_0:=am hc0_0
 clear hr0_0 hc0_0
 have HR1_0:=am hr1_0
 have HC1_0:=am hc1_0
 clear hr1_0 hc1_0
 have HB:=am (Below.refl w.heap.size w)
 have H : (if 0≤(l0_0.length : Int) then(if ((l0_0.length : Int) : Int).toNat≤35184372088832 then((some (List.replicate ((l0_0.length : Int) : Int).toNat 0 : List Int)).bind fun y168=>(nat_number_less.l0 k y168 0 (y168.length : Int) 0 l0_0 l1_0)) else(none)) else(none)) = some r:=h
 clear h
 by_cases c3 : 0≤(l0_0.length : Int)
 ·rw [if_pos c3] at H
  have c3b0:=eq_true c3
  have c3b1 : decide (0≤(l0_0.length : Int)) = true:=decide_eq_true c3
  clear c3
  by_cases c4 : ((l0_0.length : Int) : Int).toNat≤35184372088832
  ·rw [if_pos c4] at H
   have c4b0:=eq_true c4
   have c4b1 : decide (((l0_0.length : Int) : Int).toNat≤35184372088832) = true:=decide_eq_true c4
   clear c4
   obtain⟨y168,hy168⟩ : ∃ y_ : List Int,y_ = (List.replicate ((l0_0.length : Int) : Int).toNat 0):=⟨_,rfl⟩
   replace H : (nat_number_less.l0 k y168 0 (y168.length : Int) 0 l0_0 l1_0) = some r:=by first |(rw [hy168];with_reducible exact H) |(have H2_:=(Option.bind_some _ _).symm.trans H;rw [hy168];with_reducible exact H2_) |(have H2_:=(Option.bind_some _ _).symm.trans H;with_reducible exact H2_) | with_reducible exact H |(rw [hy168];exact H) | exact H
   have Ny168:=am hy168
   clear hy168
   have H':=am H
   clear H
   go_enter Tryd.func33,Tryd.ntmps33
   go_wp2_with (first |((with_reducible refine gate_dst (N:=2) rfl ?_);refine box_event ?hg (N:=2) ?hd (cs:=#[.slice A0_0 l0_0.length c0_0]) (t:=47) ?hr ?_;(case hd=>rfl);(case hg=>rfl);(case hr=>exact zh);intro gb165 hg w5 hbox hb;have BK165:=am (hbox);have GW165:=gw w hg;have GE165:=gw w hg;replace HB:=am (below_step zb hb);clear hb hbox hg) |((with_reducible refine gate_dst (N:=3) rfl ?_);refine box_event ?hg (N:=3) ?hd (cs:=#[.slice A1_0 l1_0.length c1_0]) (t:=47) ?hr ?_;(case hd=>rfl);(case hg=>rfl);(case hr=>exact zh);intro gb166 hg w6 hbox hb;have BK166:=am (hbox);have GW166:=gw w hg;have GE166:=gw w hg;replace HB:=am (below_step zb hb);have NB165_166:=nl BK165 hg;have NB166_165:=nr BK165 hg;replace BK165:=kb BK165 hb;clear hb hbox hg) |((with_reducible refine gate_dst (N:=4) rfl ?_);refine box_event ?hg (N:=4) ?hd (cs:=#[.slice none 0 0]) (t:=47) ?hr ?_;(case hd=>rfl);(case hg=>rfl);(case hr=>exact zh);intro gb167 hg w7 hbox hb;have BK167:=am (hbox);have GW167:=gw w hg;have GE167:=gw w hg;replace HB:=am (below_step zb hb);have NB165_167:=nl BK165 hg;have NB167_165:=nr BK165 hg;replace BK165:=kb BK165 hb;have NB166_167:=nl BK166 hg;have NB167_166:=nr BK166 hg;replace BK166:=kb BK166 hb;clear hb hbox hg;have hnb8:=NB165_166.out;have hnc8:=NB166_165.out;have hnb9:=NB165_167.out;have hnc9:=NB167_165.out;have hcz10_0 : w7.cell? ⟨gb165,0,none⟩ = some (.slice A0_0 l0_0.length c0_0):=(blk_cell BK165.out 0).trans rfl;have hfz10_0:=blk_frozen BK165.out 0) |((with_reducible refine gate_dst (N:=12) rfl ?_);refine Kd.R_make (Kd.int .u64) _ 55 rfl (N:=12) rfl 45 _ _ rfl (l0_0.length : Int) rfl rfl Tryd.underlying45 (.int .u64 0) 8 info55 rfl (by decide) (by omega) 0 (ok:=fun _=>True) (okp:=fun _=>True) rfl (fun _ hk=>hk) trivial (of_decide_eq_true za) (Nat.le_trans (Nat.mul_le_mul_right _ (of_decide_eq_true za : (l0_0.length : Int).toNat≤35184372088832)) (by omega)) (Below.refl _ _) (Nat.le_refl _) ?_;intro v169 w11 ho12 hb hg_ hnew_;clear hg_ hnew_;(first | rw [← Ny168.out] at ho12 |(simp only [Int.reduceToNat] at ho12;rw [← Ny168.out] at ho12));have HO170:=am (Kd.R_lower ho12 (below_size zb));replace BK165:=kb BK165 hb;replace BK166:=kb BK166 hb;replace BK167:=kb BK167 hb;replace HB:=am (below_step zb hb);clear hb ho12;obtain⟨Ao13,co13,eo13⟩:=Kd.R_slice HO170.out;subst eo13))
   repeat (go_quiet (first |((with_reducible refine gate_dst (N:=2) rfl ?_);refine box_event ?hg (N:=2) ?hd (cs:=#[.slice A0_0 l0_0.length c0_0]) (t:=47) ?hr ?_;(case hd=>rfl);(case hg=>rfl);(case hr=>exact zh);intro gb165 hg w5 hbox hb;have BK165:=am (hbox);have GW165:=gw w hg;have GE165:=gw w hg;replace HB:=am (below_step zb hb);clear hb hbox hg) |((with_reducible refine gate_dst (N:=3) rfl ?_);refine box_event ?hg (N:=3) ?hd (cs:=#[.slice A1_0 l1_0.length c1_0]) (t:=47) ?hr ?_;(case hd=>rfl);(case hg=>rfl);(case hr=>exact zh);intro gb166 hg w6 hbox hb;have BK166:=am (hbox);have GW166:=gw w hg;have GE166:=gw w hg;replace HB:=am (below_step zb hb);have NB165_166:=nl BK165 hg;have NB166_165:=nr BK165 hg;replace BK165:=kb BK165 hb;clear hb hbox hg) |((with_reducible refine gate_dst (N:=4) rfl ?_);refine box_event ?hg (N:=4) ?hd (cs:=#[.slice none 0 0]) (t:=47) ?hr ?_;(case hd=>rfl);(case hg=>rfl);(case hr=>exact zh);intro gb167 hg w7 hbox hb;have BK167:=am (hbox);have GW167:=gw w hg;have GE167:=gw w hg;replace HB:=am (below_step zb hb);have NB165_167:=nl BK165 hg;have NB167_165:=nr BK165 hg;replace BK165:=kb BK165 hb;have NB166_167:=nl BK166 hg;have NB167_166:=nr BK166 hg;replace BK166:=kb BK166 hb;clear hb hbox hg;have hnb8:=NB165_166.out;have hnc8:=NB166_165.out;have hnb9:=NB165_167.out;have hnc9:=NB167_165.out;have hcz10_0 : w7.cell? ⟨gb165,0,none⟩ = some (.slice A0_0 l0_0.length c0_0):=(blk_cell BK165.out 0).trans rfl;have hfz10_0:=blk_frozen BK165.out 0) |((with_reducible refine gate_dst (N:=12) rfl ?_);refine Kd.R_make (Kd.int .u64) _ 55 rfl (N:=12) rfl 45 _ _ rfl (l0_0.length : Int) rfl rfl Tryd.underlying45 (.int .u64 0) 8 info55 rfl (by decide) (by omega) 0 (ok:=fun _=>True) (okp:=fun _=>True) rfl (fun _ hk=>hk) trivial (of_decide_eq_true za) (Nat.le_trans (Nat.mul_le_mul_right _ (of_decide_eq_true za : (l0_0.length : Int).toNat≤35184372088832)) (by omega)) (Below.refl _ _) (Nat.le_refl _) ?_;intro v169 w11 ho12 hb hg_ hnew_;clear hg_ hnew_;(first | rw [← Ny168.out] at ho12 |(simp only [Int.reduceToNat] at ho12;rw [← Ny168.out] at ho12));have HO170:=am (Kd.R_lower ho12 (below_size zb));replace BK165:=kb BK165 hb;replace BK166:=kb BK166 hb;replace BK167:=kb BK167 hb;replace HB:=am (below_step zb hb);clear hb ho12;obtain⟨Ao13,co13,eo13⟩:=Kd.R_slice HO170.out;subst eo13));try go_wp2_with (first |((with_reducible refine gate_dst (N:=2) rfl ?_);refine box_event ?hg (N:=2) ?hd (cs:=#[.slice A0_0 l0_0.length c0_0]) (t:=47) ?hr ?_;(case hd=>rfl);(case hg=>rfl);(case hr=>exact zh);intro gb165 hg w5 hbox hb;have BK165:=am (hbox);have GW165:=gw w hg;have GE165:=gw w hg;replace HB:=am (below_step zb hb);clear hb hbox hg) |((with_reducible refine gate_dst (N:=3) rfl ?_);refine box_event ?hg (N:=3) ?hd (cs:=#[.slice A1_0 l1_0.length c1_0]) (t:=47) ?hr ?_;(case hd=>rfl);(case hg=>rfl);(case hr=>exact zh);intro gb166 hg w6 hbox hb;have BK166:=am (hbox);have GW166:=gw w hg;have GE166:=gw w hg;replace HB:=am (below_step zb hb);have NB165_166:=nl BK165 hg;have NB166_165:=nr BK165 hg;replace BK165:=kb BK165 hb;clear hb hbox hg) |((with_reducible refine gate_dst (N:=4) rfl ?_);refine box_event ?hg (N:=4) ?hd (cs:=#[.slice none 0 0]) (t:=47) ?hr ?_;(case hd=>rfl);(case hg=>rfl);(case hr=>exact zh);intro gb167 hg w7 hbox hb;have BK167:=am (hbox);have GW167:=gw w hg;have GE167:=gw w hg;replace HB:=am (below_step zb hb);have NB165_167:=nl BK165 hg;have NB167_165:=nr BK165 hg;replace BK165:=kb BK165 hb;have NB166_167:=nl BK166 hg;have NB167_166:=nr BK166 hg;replace BK166:=kb BK166 hb;clear hb hbox hg;have hnb8:=NB165_166.out;have hnc8:=NB166_165.out;have hnb9:=NB165_167.out;have hnc9:=NB167_165.out;have hcz10_0 : w7.cell? ⟨gb165,0,none⟩ = some (.slice A0_0 l0_0.length c0_0):=(blk_cell BK165.out 0).trans rfl;have hfz10_0:=blk_frozen BK165.out 0) |((with_reducible refine gate_dst (N:=12) rfl ?_);refine Kd.R_make (Kd.int .u64) _ 55 rfl (N:=12) rfl 45 _ _ rfl (l0_0.length : Int) rfl rfl Tryd.underlying45 (.int .u64 0) 8 info55 rfl (by decide) (by omega) 0 (ok:=fun _=>True) (okp:=fun _=>True) rfl (fun _ hk=>hk) trivial (of_decide_eq_true za) (Nat.le_trans (Nat.mul_le_mul_right _ (of_decide_eq_true za : (l0_0.length : Int).toNat≤35184372088832)) (by omega)) (Below.refl _ _) (Nat.le_refl _) ?_;intro v169 w11 ho12 hb hg_ hnew_;clear hg_ hnew_;(first | rw [← Ny168.out] at ho12 |(simp only [Int.reduceToNat] at ho12;rw [← Ny168.out] at ho12));have HO170:=am (Kd.R_lower ho12 (below_size zb));replace BK165:=kb BK165 hb;replace BK166:=kb BK166 hb;replace BK167:=kb BK167 hb;replace HB:=am (below_step zb hb);clear hb ho12;obtain⟨Ao13,co13,eo13⟩:=Kd.R_slice HO170.out;subst eo13)))
   go_loopg [6,15] k (fun kq v6 v15 w'=>∃ (x5_1 : List Int) (x6_1 : Int) (x15_1 : Int),v6 = .int .u64 x6_1∧v15 = .int .i64 x15_1∧Aside0 (nat_number_less.l0 kq x5_1 x6_1 (y168.length : Int) x15_1 l0_0 l1_0 = some r)∧Aside0 (kq≤k)∧Aside0 (Kd.R (Kd.int .u64) 55 w' w.heap.size (fun _=>True) (.slice Ao13 y168.length co13) x5_1)∧Aside0 (w'.heap[gb165]? = some (.cells #[(.slice A0_0 l0_0.length c0_0)] 47 (0,0)))∧Aside0 (w'.heap[gb166]? = some (.cells #[(.slice A1_0 l1_0.length c1_0)] 47 (0,0)))∧Aside0 (w'.heap[gb167]? = some (.cells #[(.slice none 0 0)] 47 (0,0)))∧Aside0 (Below w.heap.size w w'))
   case atStart=>exact⟨(y168),(0),(0),ze,ze,H',⟨Nat.le_refl _⟩,⟨zR HO170.out⟩,⟨zk BK165.out⟩,⟨zk BK166.out⟩,⟨zk BK167.out⟩,⟨zb⟩⟩
   case round=>
    clear H'
    try clear c1
    try clear p2
    try clear c3
    try clear c3b0
    try clear c3b1
    try clear c4
    try clear c4b0
    try clear c4b1
    try clear c8
    try clear c9
    try clear hcz10_0
    try clear hfz10_0
    obtain⟨x5_1,x6_1,x15_1,rfl,rfl,HA,HK1,HO_5,BK165,BK166,BK167,HB⟩:=hrel
    have hl5_1:=(Kd.R_reads' HO_5.out).1
    rw [hl5_1] at HO_5
    (try simp only [hl5_1])
    (try simp only [hl5_1] at BK165)
    (try simp only [hl5_1] at BK166)
    (try simp only [hl5_1] at BK167)
    cases gk with
    | zero=>exact absurd HA.out (by simp [nat_number_less.l0])
    | succ k1=>
     have H:=HA.out
     clear HA
     simp only [nat_number_less.l0] at H
     by_cases c14 : x15_1 < (y168.length : Int)
     ·rw [if_pos c14] at H
      have c14b0 : decide (x15_1 < (y168.length : Int)) = true:=decide_eq_true c14
      (try simp only [hl5_1] at c14b0)
      clear c14
      replace H:=Option.bind_eq_some_iff.mp H
      obtain⟨t171,A150,H⟩:=H
      try dsimp only at H
      have A15:=am A150
      clear A150
      replace H:=Option.bind_eq_some_iff.mp H
      obtain⟨t172,A160,H⟩:=H
      try dsimp only at H
      have A16:=am A160
      clear A160
      by_cases c17 : 0≤x15_1
      ·rw [if_pos c17] at H
       have c17b0 : decide (0≤x15_1) = true:=decide_eq_true c17
       clear c17
       by_cases c18 : x15_1 < (x5_1.length : Int)
       ·rw [if_pos c18] at H
        have c18b0 : decide (x15_1 < (x5_1.length : Int)) = true:=decide_eq_true c18
        (try simp only [hl5_1] at c18b0)
        clear c18
        obtain⟨y173,hy173⟩ : ∃ y_ : List Int,y_ = (x5_1.set (x15_1 : Int).toNat (Int.tmod (IntKind.u64.wrap ((IntKind.u64.wrap ((IntKind.u64.wrap (t171 + 1000000000)) - t172)) - x6_1)) 1000000000)):=⟨_,rfl⟩
        replace H : (nat_number_less.l0 k1 y173 (IntKind.u64.wrap (1 - (IntKind.u64.wrap (Int.tdiv (IntKind.u64.wrap ((IntKind.u64.wrap ((IntKind.u64.wrap (t171 + 1000000000)) - t172)) - x6_1)) 1000000000)))) (y168.length : Int) (wrap64 (x15_1 + 1)) l0_0 l1_0) = some r:=by first |(rw [hy173];with_reducible exact H) |(have H2_:=(Option.bind_some _ _).symm.trans H;rw [hy173];with_reducible exact H2_) |(have H2_:=(Option.bind_some _ _).symm.trans H;with_reducible exact H2_) | with_reducible exact H |(rw [hy173];exact H) | exact H
        have Ny173:=am hy173
        clear hy173
        have H':=am H
        clear H
        have hnb20:=NB165_166.out
        have hnc20:=NB166_165.out
        have hnb21:=NB165_167.out
        have hnc21:=NB167_165.out
        have hcz22_0 : wr.cell? ⟨gb165,0,none⟩ = some (.slice A0_0 l0_0.length c0_0):=(blk_cell BK165.out 0).trans rfl
        have hfz22_0:=blk_frozen BK165.out 0
        go_wp2_with (first |(go_at_call 43;(with_reducible refine(nat_digits_at.calls _ _ l0_0 x15_1 t171 _ ?side1 ?side2 A15.out).mono ?_);(case side1=>repeat (first | exact(Kd.C_below HR0_0.out HB.out) |(with_reducible refine Kd.C_alloc ?_ _) |(with_reducible refine Kd.C_drewN ?_ _) |(with_reducible refine Kd.C_drew ?_)));(case side2=>exact HC0_0.out);rintro e w' ⟨rfl,⟨nd,rfl⟩⟩;(try first | exact⟨rfl,_,World.drewN_drewN _ _ _⟩ | exact⟨rfl,_,Eq.trans (World.drewN_drewN _ _ _) (congrArg (World.drewN _) (Nat.add_assoc _ _ _))⟩);have hnb23:=NB166_167.out;have hnc23:=NB167_166.out;have hcz24_0 : wr.cell? ⟨gb166,0,none⟩ = some (.slice A1_0 l1_0.length c1_0):=(blk_cell BK166.out 0).trans rfl;have hfz24_0:=blk_frozen BK166.out 0) |(go_at_call 43;(with_reducible refine(nat_digits_at.calls _ _ l1_0 x15_1 t172 _ ?side1 ?side2 A16.out).mono ?_);(case side1=>repeat (first | exact(Kd.C_below HR1_0.out zb) |(with_reducible refine Kd.C_alloc ?_ _) |(with_reducible refine Kd.C_drewN ?_ _) |(with_reducible refine Kd.C_drew ?_)));(case side2=>exact HC1_0.out);rintro e w' ⟨rfl,⟨nd,rfl⟩⟩;(try first | exact⟨rfl,_,World.drewN_drewN _ _ _⟩ | exact⟨rfl,_,Eq.trans (World.drewN_drewN _ _ _) (congrArg (World.drewN _) (Nat.add_assoc _ _ _))⟩);have p19 : 0≤(x15_1 : Int):=of_decide_eq_true za;have q19 : (x15_1 : Int) < ((x5_1.length : Int) : Int):=of_decide_eq_true za;obtain⟨go19,co19,eo19,gb19,gl19,cl19,HG19⟩:=Kd.R_form HO_5.out (by omega);(first | cases eo19 |(injection eo19 with ea_ en_ ec_;(first | subst ea_ |(injection ea_ with ea_;subst ea_));subst ec_;clear en_));have GB19:=am gb19;have GG19:=am HG19;clear gb19 gl19 HG19;obtain⟨hx19_0,hf19_0⟩:=Kd.R_celln 0 HO_5.out (x15_1 : Int) p19 q19;replace p19:=eq_true p19;replace q19:=eq_true q19;obtain⟨hy25_,hz25_⟩:=Kd.R_celln 0 HO_5.out (x15_1 : Int) (of_decide_eq_true za) (of_decide_eq_true za);have HP25:=Kd.R_putg HO_5.out (x15_1 : Int) (Int.tmod (IntKind.u64.wrap ((IntKind.u64.wrap ((IntKind.u64.wrap (t171 + 1000000000)) - t172)) - x6_1)) 1000000000)) |((with_reducible refine gate_store (t:=55) (p:=37) rfl ?_);(try (rw [drewN_self wr];generalize hq_ : World.drewN wr _ = wr;have n0_:=am (Kd.R_at hq_ HO_5.out);have n1_:=am (blk_at hq_ BK165.out);have n2_:=am (blk_at hq_ BK166.out);have n3_:=am (blk_at hq_ BK167.out);have n4_:=am (below_at hq_ HB.out);clear hq_ HO_5 BK165 BK166 BK167 HB;have HO_5:=n0_;have BK165:=n1_;have BK166:=n2_;have BK167:=n3_;have HB:=n4_;clear n0_ n1_ n2_ n3_ n4_;(try (obtain⟨hy25_,hz25_⟩:=Kd.R_celln 0 HO_5.out (x15_1 : Int) (of_decide_eq_true za) (of_decide_eq_true za)));(try (have HP25:=Kd.R_putg HO_5.out (x15_1 : Int) (Int.tmod (IntKind.u64.wrap ((IntKind.u64.wrap ((IntKind.u64.wrap (t171 + 1000000000)) - t172)) - x6_1)) 1000000000)))));refine store_event (t:=55) (p:=37) (v:=?vo_w26) (w1:=(wr.setCell ⟨go19,(x15_1 : Int).toNat,none⟩ (.int .u64 (Int.tmod (IntKind.u64.wrap ((IntKind.u64.wrap ((IntKind.u64.wrap (t171 + 1000000000)) - t172)) - x6_1)) 1000000000)))) ?hg ?ho ?hn ?hr ?_;(case ho=>rfl);(case hg=>rfl);(case hn=>rfl);(case hr=>exact zh);intro w26 hw;have hg : wr.grownBy w26 (some go19):=(by rw [hw];exact HP25.2);have hp_ : Kd.R (Kd.int .u64) 55 w26 w.heap.size (fun _=>True) (.slice (some ⟨go19,0,none⟩) x5_1.length co13) y173:=(by rw [hw,Ny173.out];exact HP25.1);clear HP25;replace BK165:=am (blk_grown (zk BK165.out) hg (Kd.R_ne HO_5.out BK165.out (by decide)));replace BK166:=am (blk_grown (zk BK166.out) hg (Kd.R_ne HO_5.out BK166.out (by decide)));replace BK167:=am (blk_grown (zk BK167.out) hg (Kd.R_ne HO_5.out BK167.out (by decide)));replace HO_5:=am (hp_);replace HB:=am ((by rw [hw];exact below_set (HB.out) GB19.out : Below w.heap.size w w26));clear hg hw hp_))
        repeat (go_quiet (first |(go_at_call 43;(with_reducible refine(nat_digits_at.calls _ _ l0_0 x15_1 t171 _ ?side1 ?side2 A15.out).mono ?_);(case side1=>repeat (first | exact(Kd.C_below HR0_0.out HB.out) |(with_reducible refine Kd.C_alloc ?_ _) |(with_reducible refine Kd.C_drewN ?_ _) |(with_reducible refine Kd.C_drew ?_)));(case side2=>exact HC0_0.out);rintro e w' ⟨rfl,⟨nd,rfl⟩⟩;(try first | exact⟨rfl,_,World.drewN_drewN _ _ _⟩ | exact⟨rfl,_,Eq.trans (World.drewN_drewN _ _ _) (congrArg (World.drewN _) (Nat.add_assoc _ _ _))⟩);have hnb23:=NB166_167.out;have hnc23:=NB167_166.out;have hcz24_0 : wr.cell? ⟨gb166,0,none⟩ = some (.slice A1_0 l1_0.length c1_0):=(blk_cell BK166.out 0).trans rfl;have hfz24_0:=blk_frozen BK166.out 0) |(go_at_call 43;(with_reducible refine(nat_digits_at.calls _ _ l1_0 x15_1 t172 _ ?side1 ?side2 A16.out).mono ?_);(case side1=>repeat (first | exact(Kd.C_below HR1_0.out zb) |(with_reducible refine Kd.C_alloc ?_ _) |(with_reducible refine Kd.C_drewN ?_ _) |(with_reducible refine Kd.C_drew ?_)));(case side2=>exact HC1_0.out);rintro e w' ⟨rfl,⟨nd,rfl⟩⟩;(try first | exact⟨rfl,_,World.drewN_drewN _ _ _⟩ | exact⟨rfl,_,Eq.trans (World.drewN_drewN _ _ _) (congrArg (World.drewN _) (Nat.add_assoc _ _ _))⟩);have p19 : 0≤(x15_1 : Int):=of_decide_eq_true za;have q19 : (x15_1 : Int) < ((x5_1.length : Int) : Int):=of_decide_eq_true za;obtain⟨go19,co19,eo19,gb19,gl19,cl19,HG19⟩:=Kd.R_form HO_5.out (by omega);(first | cases eo19 |(injection eo19 with ea_ en_ ec_;(first | subst ea_ |(injection ea_ with ea_;subst ea_));subst ec_;clear en_));have GB19:=am gb19;have GG19:=am HG19;clear gb19 gl19 HG19;obtain⟨hx19_0,hf19_0⟩:=Kd.R_celln 0 HO_5.out (x15_1 : Int) p19 q19;replace p19:=eq_true p19;replace q19:=eq_true q19;obtain⟨hy25_,hz25_⟩:=Kd.R_celln 0 HO_5.out (x15_1 : Int) (of_decide_eq_true za) (of_decide_eq_true za);have HP25:=Kd.R_putg HO_5.out (x15_1 : Int) (Int.tmod (IntKind.u64.wrap ((IntKind.u64.wrap ((IntKind.u64.wrap (t171 + 1000000000)) - t172)) - x6_1)) 1000000000)) |((with_reducible refine gate_store (t:=55) (p:=37) rfl ?_);(try (rw [drewN_self wr];generalize hq_ : World.drewN wr _ = wr;have n0_:=am (Kd.R_at hq_ HO_5.out);have n1_:=am (blk_at hq_ BK165.out);have n2_:=am (blk_at hq_ BK166.out);have n3_:=am (blk_at hq_ BK167.out);have n4_:=am (below_at hq_ HB.out);clear hq_ HO_5 BK165 BK166 BK167 HB;have HO_5:=n0_;have BK165:=n1_;have BK166:=n2_;have BK167:=n3_;have HB:=n4_;clear n0_ n1_ n2_ n3_ n4_;(try (obtain⟨hy25_,hz25_⟩:=Kd.R_celln 0 HO_5.out (x15_1 : Int) (of_decide_eq_true za) (of_decide_eq_true za)));(try (have HP25:=Kd.R_putg HO_5.out (x15_1 : Int) (Int.tmod (IntKind.u64.wrap ((IntKind.u64.wrap ((IntKind.u64.wrap (t171 + 1000000000)) - t172)) - x6_1)) 1000000000)))));refine store_event (t:=55) (p:=37) (v:=?vo_w26) (w1:=(wr.setCell ⟨go19,(x15_1 : Int).toNat,none⟩ (.int .u64 (Int.tmod (IntKind.u64.wrap ((IntKind.u64.wrap ((IntKind.u64.wrap (t171 + 1000000000)) - t172)) - x6_1)) 1000000000)))) ?hg ?ho ?hn ?hr ?_;(case ho=>rfl);(case hg=>rfl);(case hn=>rfl);(case hr=>exact zh);intro w26 hw;have hg : wr.grownBy w26 (some go19):=(by rw [hw];exact HP25.2);have hp_ : Kd.R (Kd.int .u64) 55 w26 w.heap.size (fun _=>True) (.slice (some ⟨go19,0,none⟩) x5_1.length co13) y173:=(by rw [hw,Ny173.out];exact HP25.1);clear HP25;replace BK165:=am (blk_grown (zk BK165.out) hg (Kd.R_ne HO_5.out BK165.out (by decide)));replace BK166:=am (blk_grown (zk BK166.out) hg (Kd.R_ne HO_5.out BK166.out (by decide)));replace BK167:=am (blk_grown (zk BK167.out) hg (Kd.R_ne HO_5.out BK167.out (by decide)));replace HO_5:=am (hp_);replace HB:=am ((by rw [hw];exact below_set (HB.out) GB19.out : Below w.heap.size w w26));clear hg hw hp_));try go_wp2_with (first |(go_at_call 43;(with_reducible refine(nat_digits_at.calls _ _ l0_0 x15_1 t171 _ ?side1 ?side2 A15.out).mono ?_);(case side1=>repeat (first | exact(Kd.C_below HR0_0.out HB.out) |(with_reducible refine Kd.C_alloc ?_ _) |(with_reducible refine Kd.C_drewN ?_ _) |(with_reducible refine Kd.C_drew ?_)));(case side2=>exact HC0_0.out);rintro e w' ⟨rfl,⟨nd,rfl⟩⟩;(try first | exact⟨rfl,_,World.drewN_drewN _ _ _⟩ | exact⟨rfl,_,Eq.trans (World.drewN_drewN _ _ _) (congrArg (World.drewN _) (Nat.add_assoc _ _ _))⟩);have hnb23:=NB166_167.out;have hnc23:=NB167_166.out;have hcz24_0 : wr.cell? ⟨gb166,0,none⟩ = some (.slice A1_0 l1_0.length c1_0):=(blk_cell BK166.out 0).trans rfl;have hfz24_0:=blk_frozen BK166.out 0) |(go_at_call 43;(with_reducible refine(nat_digits_at.calls _ _ l1_0 x15_1 t172 _ ?side1 ?side2 A16.out).mono ?_);(case side1=>repeat (first | exact(Kd.C_below HR1_0.out zb) |(with_reducible refine Kd.C_alloc ?_ _) |(with_reducible refine Kd.C_drewN ?_ _) |(with_reducible refine Kd.C_drew ?_)));(case side2=>exact HC1_0.out);rintro e w' ⟨rfl,⟨nd,rfl⟩⟩;(try first | exact⟨rfl,_,World.drewN_drewN _ _ _⟩ | exact⟨rfl,_,Eq.trans (World.drewN_drewN _ _ _) (congrArg (World.drewN _) (Nat.add_assoc _ _ _))⟩);have p19 : 0≤(x15_1 : Int):=of_decide_eq_true za;have q19 : (x15_1 : Int) < ((x5_1.length : Int) : Int):=of_decide_eq_true za;obtain⟨go19,co19,eo19,gb19,gl19,cl19,HG19⟩:=Kd.R_form HO_5.out (by omega);(first | cases eo19 |(injection eo19 with ea_ en_ ec_;(first | subst ea_ |(injection ea_ with ea_;subst ea_));subst ec_;clear en_));have GB19:=am gb19;have GG19:=am HG19;clear gb19 gl19 HG19;obtain⟨hx19_0,hf19_0⟩:=Kd.R_celln 0 HO_5.out (x15_1 : Int) p19 q19;replace p19:=eq_true p19;replace q19:=eq_true q19;obtain⟨hy25_,hz25_⟩:=Kd.R_celln 0 HO_5.out (x15_1 : Int) (of_decide_eq_true za) (of_decide_eq_true za);have HP25:=Kd.R_putg HO_5.out (x15_1 : Int) (Int.tmod (IntKind.u64.wrap ((IntKind.u64.wrap ((IntKind.u64.wrap (t171 + 1000000000)) - t172)) - x6_1)) 1000000000)) |((with_reducible refine gate_store (t:=55) (p:=37) rfl ?_);(try (rw [drewN_self wr];generalize hq_ : World.drewN wr _ = wr;have n0_:=am (Kd.R_at hq_ HO_5.out);have n1_:=am (blk_at hq_ BK165.out);have n2_:=am (blk_at hq_ BK166.out);have n3_:=am (blk_at hq_ BK167.out);have n4_:=am (below_at hq_ HB.out);clear hq_ HO_5 BK165 BK166 BK167 HB;have HO_5:=n0_;have BK165:=n1_;have BK166:=n2_;have BK167:=n3_;have HB:=n4_;clear n0_ n1_ n2_ n3_ n4_;(try (obtain⟨hy25_,hz25_⟩:=Kd.R_celln 0 HO_5.out (x15_1 : Int) (of_decide_eq_true za) (of_decide_eq_true za)));(try (have HP25:=Kd.R_putg HO_5.out (x15_1 : Int) (Int.tmod (IntKind.u64.wrap ((IntKind.u64.wrap ((IntKind.u64.wrap (t171 + 1000000000)) - t172)) - x6_1)) 1000000000)))));refine store_event (t:=55) (p:=37) (v:=?vo_w26) (w1:=(wr.setCell ⟨go19,(x15_1 : Int).toNat,none⟩ (.int .u64 (Int.tmod (IntKind.u64.wrap ((IntKind.u64.wrap ((IntKind.u64.wrap (t171 + 1000000000)) - t172)) - x6_1)) 1000000000)))) ?hg ?ho ?hn ?hr ?_;(case ho=>rfl);(case hg=>rfl);(case hn=>rfl);(case hr=>exact zh);intro w26 hw;have hg : wr.grownBy w26 (some go19):=(by rw [hw];exact HP25.2);have hp_ : Kd.R (Kd.int .u64) 55 w26 w.heap.size (fun _=>True) (.slice (some ⟨go19,0,none⟩) x5_1.length co13) y173:=(by rw [hw,Ny173.out];exact HP25.1);clear HP25;replace BK165:=am (blk_grown (zk BK165.out) hg (Kd.R_ne HO_5.out BK165.out (by decide)));replace BK166:=am (blk_grown (zk BK166.out) hg (Kd.R_ne HO_5.out BK166.out (by decide)));replace BK167:=am (blk_grown (zk BK167.out) hg (Kd.R_ne HO_5.out BK167.out (by decide)));replace HO_5:=am (hp_);replace HB:=am ((by rw [hw];exact below_set (HB.out) GB19.out : Below w.heap.size w w26));clear hg hw hp_)))
        (try simp only [← hl5_1])
        go_roundg k1
        case measure=>have:=HK1.out;omega
        case rel=>exact⟨(y173),(IntKind.u64.wrap (1 - (IntKind.u64.wrap (Int.tdiv (IntKind.u64.wrap ((IntKind.u64.wrap ((IntKind.u64.wrap (t171 + 1000000000)) - t172)) - x6_1)) 1000000000)))),(wrap64 (x15_1 + 1)),ze,ze,H',⟨by have:=HK1.out;omega⟩,⟨by(try simp only [hl5_1]);refine zR ?_;exact HO_5.out⟩,⟨by(try simp only [hl5_1]);refine zk ?_;exact BK165.out⟩,⟨by(try simp only [hl5_1]);refine zk ?_;exact BK166.out⟩,⟨by(try simp only [hl5_1]);refine zk ?_;exact BK167.out⟩,⟨zb⟩⟩
       ·rw [if_neg c18] at H
        exact absurd H (by simp)
      ·rw [if_neg c17] at H
       exact absurd H (by simp)
     ·rw [if_neg c14] at H
      have c14b0 : decide (x15_1 < (y168.length : Int)) = false:=decide_eq_false c14
      (try simp only [hl5_1] at c14b0)
      clear c14
      replace H:=Option.bind_eq_some_iff.mp H
      obtain⟨t174,A270,H⟩:=H
      try dsimp only at H
      have A27:=am A270
      clear A270
      obtain rfl:=Option.some.inj H
      go_wp2_with (first |(go_at_call 38;(with_reducible refine(nat_carried.calls k1 _ _ x5_1 t174 _ ?side1 ?side2 A27.out).mono ?_);(case side1=>exact zC (Kd.R_reads' HO_5.out).2.2);(case side2=>exact(Kd.R_reads' HO_5.out).2.1);rintro e w28 ⟨v175,rfl,ho0,hb⟩;have HO176:=am (Kd.R_lower (Kd.R_new' ho0 (Kd.R_lt (zR HO_5.out))) (below_size zb));replace HO_5:=re HO_5 (Kd.R_base ho0) hb;replace BK165:=kb BK165 hb;replace BK166:=kb BK166 hb;replace BK167:=kb BK167 hb;replace HB:=am (below_step zb hb);(try clear hb);(try clear ho0);obtain⟨Ao29,co29,eo29⟩:=Kd.R_slice HO176.out;subst eo29;have hnb30:=NB167_165.out;have hnc30:=NB165_167.out;have hnb31:=NB167_166.out;have hnc31:=NB166_167.out;have hcz32_0 : w28.cell? ⟨gb167,0,none⟩ = some (.slice none 0 0):=(blk_cell BK167.out 0).trans rfl;have hfz32_0:=blk_frozen BK167.out 0))
      repeat (go_quiet (first |(go_at_call 38;(with_reducible refine(nat_carried.calls k1 _ _ x5_1 t174 _ ?side1 ?side2 A27.out).mono ?_);(case side1=>exact zC (Kd.R_reads' HO_5.out).2.2);(case side2=>exact(Kd.R_reads' HO_5.out).2.1);rintro e w28 ⟨v175,rfl,ho0,hb⟩;have HO176:=am (Kd.R_lower (Kd.R_new' ho0 (Kd.R_lt (zR HO_5.out))) (below_size zb));replace HO_5:=re HO_5 (Kd.R_base ho0) hb;replace BK165:=kb BK165 hb;replace BK166:=kb BK166 hb;replace BK167:=kb BK167 hb;replace HB:=am (below_step zb hb);(try clear hb);(try clear ho0);obtain⟨Ao29,co29,eo29⟩:=Kd.R_slice HO176.out;subst eo29;have hnb30:=NB167_165.out;have hnc30:=NB165_167.out;have hnb31:=NB167_166.out;have hnc31:=NB166_167.out;have hcz32_0 : w28.cell? ⟨gb167,0,none⟩ = some (.slice none 0 0):=(blk_cell BK167.out 0).trans rfl;have hfz32_0:=blk_frozen BK167.out 0));try go_wp2_with (first |(go_at_call 38;(with_reducible refine(nat_carried.calls k1 _ _ x5_1 t174 _ ?side1 ?side2 A27.out).mono ?_);(case side1=>exact zC (Kd.R_reads' HO_5.out).2.2);(case side2=>exact(Kd.R_reads' HO_5.out).2.1);rintro e w28 ⟨v175,rfl,ho0,hb⟩;have HO176:=am (Kd.R_lower (Kd.R_new' ho0 (Kd.R_lt (zR HO_5.out))) (below_size zb));replace HO_5:=re HO_5 (Kd.R_base ho0) hb;replace BK165:=kb BK165 hb;replace BK166:=kb BK166 hb;replace BK167:=kb BK167 hb;replace HB:=am (below_step zb hb);(try clear hb);(try clear ho0);obtain⟨Ao29,co29,eo29⟩:=Kd.R_slice HO176.out;subst eo29;have hnb30:=NB167_165.out;have hnc30:=NB165_167.out;have hnb31:=NB167_166.out;have hnc31:=NB166_167.out;have hcz32_0 : w28.cell? ⟨gb167,0,none⟩ = some (.slice none 0 0):=(blk_cell BK167.out 0).trans rfl;have hfz32_0:=blk_frozen BK167.out 0)))
      refine bodyPost_ret (results_cell_row rfl _ _ gb167 47 #[.slice Ao29 t174.length co29] (0,0) _ rfl (by refine zk ?_;refine blk_put (cs:=#[.slice none 0 0]) ?_ 0 _ rfl;refine zk ?_;exact BK167.out) Tryd.underlying47 rfl (by kernel_rfl)) rfl ?_
      exact⟨_,zf,by refine zR ?_;exact Kd.R_mono (Kd.R_far (p:=⟨gb167,0,none⟩) (Kd.R_types HO176.out BK167.out (by decide)) (fun _ hk=>hk.2) (.slice Ao29 t174.length co29)) (fun _ hk=>trivial),zb⟩
  ·rw [if_neg c4] at H
   exact absurd H (by simp)
 ·rw [if_neg c3] at H
  exact absurd H (by simp)

/-! ### cmp_isNaN_int: function 58 -/
def cmp_isNaN_int.f (a0 : Int) : Option (Bool):=some (a0 != a0)
theorem cmp_isNaN_int.calls (a0 : Int) (r : Bool) (w : World) (h : cmp_isNaN_int.f a0 = some r) :
  Calls Tryd.prog 58 #[.int .i64 a0] w fun e w'=>e = .returned (.bool r)∧Drawn0 w w':=by
 have H : (some (a0 != a0)) = some r:=h
 clear h
 obtain rfl:=Option.some.inj H
 go_enter Tryd.func58,Tryd.ntmps58
 go_wp2
 go_ret
 exact⟨ze,by repeat (first | exact Drawn0.refl _ | apply Drawn0.step)⟩

/-! ### cmp_Compare_int: function 46 -/
def cmp_Compare_int.f (a0 : Int) (a1 : Int) : Option (Int):=(cmp_isNaN_int.f a0).bind fun t177=>((cmp_isNaN_int.f a1).bind fun t178=>(if t177 = true then(if t178 = true then(some 0) else(some (-1))) else(if t178 = true then(some 1) else(if a0 < a1 then(some (-1)) else(if a0 > a1 then(some 1) else(some 0))))))
theorem cmp_Compare_int.calls (a0 : Int) (a1 : Int) (r : Int) (w : World) (h : cmp_Compare_int.f a0 a1 = some r) :
  Calls Tryd.prog 46 #[.int .i64 a0,.int .i64 a1] w fun e w'=>e = .returned (.int .i64 r)∧Drawn0 w w':=by
 have H : ((cmp_isNaN_int.f a0).bind fun t177=>((cmp_isNaN_int.f a1).bind fun t178=>(if t177 = true then(if t178 = true then(some 0) else(some (-1))) else(if t178 = true then(some 1) else(if a0 < a1 then(some (-1)) else(if a0 > a1 then(some 1) else(some 0))))))) = some r:=h
 clear h
 replace H:=Option.bind_eq_some_iff.mp H
 obtain⟨t177,A30,H⟩:=H
 try dsimp only at H
 have A3:=am A30
 clear A30
 replace H:=Option.bind_eq_some_iff.mp H
 obtain⟨t178,A40,H⟩:=H
 try dsimp only at H
 have A4:=am A40
 clear A40
 by_cases c5 : t177 = true
 ·subst c5
  have H1 : (if t178 = true then(some 0) else(some (-1))) = some r:=by rw [if_pos rfl] at H;exact H
  clear H
  have H:=H1
  clear H1
  by_cases c6 : t178 = true
  ·subst c6
   have H1 : (some 0) = some r:=by rw [if_pos rfl] at H;exact H
   clear H
   have H:=H1
   clear H1
   obtain rfl:=Option.some.inj H
   go_enter Tryd.func46,Tryd.ntmps46
   go_wp2_with (first |((with_reducible refine gate_callee (f:=58) rfl ?_);refine goesL_ (some 8) rfl rfl Tryd.func58 (by kernel_rfl) rfl #[.int .i64 a0] rfl zl ?_;(with_reducible refine(cmp_isNaN_int.calls a0 true _ A3.out).mono ?_);rintro e w' ⟨rfl,⟨nd,rfl⟩⟩;refine⟨_,rfl,?_⟩) |((with_reducible refine gate_callee (f:=58) rfl ?_);refine goesL_ (some 10) rfl rfl Tryd.func58 (by kernel_rfl) rfl #[.int .i64 a1] rfl zl ?_;(with_reducible refine(cmp_isNaN_int.calls a1 true _ A4.out).mono ?_);rintro e w' ⟨rfl,⟨nd,rfl⟩⟩;refine⟨_,rfl,?_⟩))
   go_ret
   exact⟨ze,by repeat (first | exact Drawn0.refl _ | apply Drawn0.step)⟩
  ·replace c6:=Bool.eq_false_iff.mpr c6
   subst c6
   have H1 : (some (-1)) = some r:=by rw [if_neg (show ¬ (false = true) by decide)] at H;exact H
   clear H
   have H:=H1
   clear H1
   obtain rfl:=Option.some.inj H
   go_enter Tryd.func46,Tryd.ntmps46
   go_wp2_with (first |((with_reducible refine gate_callee (f:=58) rfl ?_);refine goesL_ (some 8) rfl rfl Tryd.func58 (by kernel_rfl) rfl #[.int .i64 a0] rfl zl ?_;(with_reducible refine(cmp_isNaN_int.calls a0 true _ A3.out).mono ?_);rintro e w' ⟨rfl,⟨nd,rfl⟩⟩;refine⟨_,rfl,?_⟩) |((with_reducible refine gate_callee (f:=58) rfl ?_);refine goesL_ (some 10) rfl rfl Tryd.func58 (by kernel_rfl) rfl #[.int .i64 a1] rfl zl ?_;(with_reducible refine(cmp_isNaN_int.calls a1 false _ A4.out).mono ?_);rintro e w' ⟨rfl,⟨nd,rfl⟩⟩;refine⟨_,rfl,?_⟩))
   go_ret
   exact⟨ze,by repeat (first | exact Drawn0.refl _ | apply Drawn0.step)⟩
 ·replace c5:=Bool.eq_false_iff.mpr c5
  subst c5
  have H1 : (if t178 = true then(some 1) else(if a0 < a1 then(some (-1)) else(if a0 > a1 then(some 1) else(some 0)))) = some r:=by rw [if_neg (show ¬ (false = true) by decide)] at H;exact H
  clear H
  have H:=H1
  clear H1
  by_cases c7 : t178 = true
  ·subst c7
   have H1 : (some 1) = some r:=by rw [if_pos rfl] at H;exact H
   clear H
   have H:=H1
   clear H1
   obtain rfl:=Option.some.inj H
   go_enter Tryd.func46,Tryd.ntmps46
   go_wp2_with (first |((with_reducible refine gate_callee (f:=58) rfl ?_);refine goesL_ (some 8) rfl rfl Tryd.func58 (by kernel_rfl) rfl #[.int .i64 a0] rfl zl ?_;(with_reducible refine(cmp_isNaN_int.calls a0 false _ A3.out).mono ?_);rintro e w' ⟨rfl,⟨nd,rfl⟩⟩;refine⟨_,rfl,?_⟩) |((with_reducible refine gate_callee (f:=58) rfl ?_);refine goesL_ (some 10) rfl rfl Tryd.func58 (by kernel_rfl) rfl #[.int .i64 a1] rfl zl ?_;(with_reducible refine(cmp_isNaN_int.calls a1 true _ A4.out).mono ?_);rintro e w' ⟨rfl,⟨nd,rfl⟩⟩;refine⟨_,rfl,?_⟩))
   go_ret
   exact⟨ze,by repeat (first | exact Drawn0.refl _ | apply Drawn0.step)⟩
  ·replace c7:=Bool.eq_false_iff.mpr c7
   subst c7
   have H1 : (if a0 < a1 then(some (-1)) else(if a0 > a1 then(some 1) else(some 0))) = some r:=by rw [if_neg (show ¬ (false = true) by decide)] at H;exact H
   clear H
   have H:=H1
   clear H1
   by_cases c8 : a0 < a1
   ·rw [if_pos c8] at H
    have c8b0 : decide (a0 < a1) = true:=decide_eq_true c8
    clear c8
    obtain rfl:=Option.some.inj H
    go_enter Tryd.func46,Tryd.ntmps46
    go_wp2_with (first |((with_reducible refine gate_callee (f:=58) rfl ?_);refine goesL_ (some 8) rfl rfl Tryd.func58 (by kernel_rfl) rfl #[.int .i64 a0] rfl zl ?_;(with_reducible refine(cmp_isNaN_int.calls a0 false _ A3.out).mono ?_);rintro e w' ⟨rfl,⟨nd,rfl⟩⟩;refine⟨_,rfl,?_⟩) |((with_reducible refine gate_callee (f:=58) rfl ?_);refine goesL_ (some 10) rfl rfl Tryd.func58 (by kernel_rfl) rfl #[.int .i64 a1] rfl zl ?_;(with_reducible refine(cmp_isNaN_int.calls a1 false _ A4.out).mono ?_);rintro e w' ⟨rfl,⟨nd,rfl⟩⟩;refine⟨_,rfl,?_⟩))
    go_ret
    exact⟨ze,by repeat (first | exact Drawn0.refl _ | apply Drawn0.step)⟩
   ·rw [if_neg c8] at H
    have c8b0 : decide (a0 < a1) = false:=decide_eq_false c8
    clear c8
    by_cases c9 : a0 > a1
    ·rw [if_pos c9] at H
     have c9b0 : decide (a1 < a0) = true:=decide_eq_true c9
     clear c9
     obtain rfl:=Option.some.inj H
     go_enter Tryd.func46,Tryd.ntmps46
     go_wp2_with (first |((with_reducible refine gate_callee (f:=58) rfl ?_);refine goesL_ (some 8) rfl rfl Tryd.func58 (by kernel_rfl) rfl #[.int .i64 a0] rfl zl ?_;(with_reducible refine(cmp_isNaN_int.calls a0 false _ A3.out).mono ?_);rintro e w' ⟨rfl,⟨nd,rfl⟩⟩;refine⟨_,rfl,?_⟩) |((with_reducible refine gate_callee (f:=58) rfl ?_);refine goesL_ (some 10) rfl rfl Tryd.func58 (by kernel_rfl) rfl #[.int .i64 a1] rfl zl ?_;(with_reducible refine(cmp_isNaN_int.calls a1 false _ A4.out).mono ?_);rintro e w' ⟨rfl,⟨nd,rfl⟩⟩;refine⟨_,rfl,?_⟩))
     go_ret
     exact⟨ze,by repeat (first | exact Drawn0.refl _ | apply Drawn0.step)⟩
    ·rw [if_neg c9] at H
     have c9b0 : decide (a1 < a0) = false:=decide_eq_false c9
     clear c9
     obtain rfl:=Option.some.inj H
     go_enter Tryd.func46,Tryd.ntmps46
     go_wp2_with (first |((with_reducible refine gate_callee (f:=58) rfl ?_);refine goesL_ (some 8) rfl rfl Tryd.func58 (by kernel_rfl) rfl #[.int .i64 a0] rfl zl ?_;(with_reducible refine(cmp_isNaN_int.calls a0 false _ A3.out).mono ?_);rintro e w' ⟨rfl,⟨nd,rfl⟩⟩;refine⟨_,rfl,?_⟩) |((with_reducible refine gate_callee (f:=58) rfl ?_);refine goesL_ (some 10) rfl rfl Tryd.func58 (by kernel_rfl) rfl #[.int .i64 a1] rfl zl ?_;(with_reducible refine(cmp_isNaN_int.calls a1 false _ A4.out).mono ?_);rintro e w' ⟨rfl,⟨nd,rfl⟩⟩;refine⟨_,rfl,?_⟩))
     go_ret
     exact⟨ze,by repeat (first | exact Drawn0.refl _ | apply Drawn0.step)⟩

/-! ### cmp_isNaN_uint64: function 59 -/
def cmp_isNaN_uint64.f (a0 : Int) : Option (Bool):=some (a0 != a0)
theorem cmp_isNaN_uint64.calls (a0 : Int) (r : Bool) (w : World) (h : cmp_isNaN_uint64.f a0 = some r) :
  Calls Tryd.prog 59 #[.int .u64 a0] w fun e w'=>e = .returned (.bool r)∧Drawn0 w w':=by
 have H : (some (a0 != a0)) = some r:=h
 clear h
 obtain rfl:=Option.some.inj H
 go_enter Tryd.func59,Tryd.ntmps59
 go_wp2
 go_ret
 exact⟨ze,by repeat (first | exact Drawn0.refl _ | apply Drawn0.step)⟩

/-! ### cmp_Compare_uint64: function 47 -/
def cmp_Compare_uint64.f (a0 : Int) (a1 : Int) : Option (Int):=(cmp_isNaN_uint64.f a0).bind fun t179=>((cmp_isNaN_uint64.f a1).bind fun t180=>(if t179 = true then(if t180 = true then(some 0) else(some (-1))) else(if t180 = true then(some 1) else(if a0 < a1 then(some (-1)) else(if a0 > a1 then(some 1) else(some 0))))))
theorem cmp_Compare_uint64.calls (a0 : Int) (a1 : Int) (r : Int) (w : World) (h : cmp_Compare_uint64.f a0 a1 = some r) :
  Calls Tryd.prog 47 #[.int .u64 a0,.int .u64 a1] w fun e w'=>e = .returned (.int .i64 r)∧Drawn0 w w':=by
 have H : ((cmp_isNaN_uint64.f a0).bind fun t179=>((cmp_isNaN_uint64.f a1).bind fun t180=>(if t179 = true then(if t180 = true then(some 0) else(some (-1))) else(if t180 = true then(some 1) else(if a0 < a1 then(some (-1)) else(if a0 > a1 then(some 1) else(some 0))))))) = some r:=h
 clear h
 replace H:=Option.bind_eq_some_iff.mp H
 obtain⟨t179,A30,H⟩:=H
 try dsimp only at H
 have A3:=am A30
 clear A30
 replace H:=Option.bind_eq_some_iff.mp H
 obtain⟨t180,A40,H⟩:=H
 try dsimp only at H
 have A4:=am A40
 clear A40
 by_cases c5 : t179 = true
 ·subst c5
  have H1 : (if t180 = true then(some 0) else(some (-1))) = some r:=by rw [if_pos rfl] at H;exact H
  clear H
  have H:=H1
  clear H1
  by_cases c6 : t180 = true
  ·subst c6
   have H1 : (some 0) = some r:=by rw [if_pos rfl] at H;exact H
   clear H
   have H:=H1
   clear H1
   obtain rfl:=Option.some.inj H
   go_enter Tryd.func47,Tryd.ntmps47
   go_wp2_with (first |((with_reducible refine gate_callee (f:=59) rfl ?_);refine goesL_ (some 8) rfl rfl Tryd.func59 (by kernel_rfl) rfl #[.int .u64 a0] rfl zl ?_;(with_reducible refine(cmp_isNaN_uint64.calls a0 true _ A3.out).mono ?_);rintro e w' ⟨rfl,⟨nd,rfl⟩⟩;refine⟨_,rfl,?_⟩) |((with_reducible refine gate_callee (f:=59) rfl ?_);refine goesL_ (some 10) rfl rfl Tryd.func59 (by kernel_rfl) rfl #[.int .u64 a1] rfl zl ?_;(with_reducible refine(cmp_isNaN_uint64.calls a1 true _ A4.out).mono ?_);rintro e w' ⟨rfl,⟨nd,rfl⟩⟩;refine⟨_,rfl,?_⟩))
   go_ret
   exact⟨ze,by repeat (first | exact Drawn0.refl _ | apply Drawn0.step)⟩
  ·replace c6:=Bool.eq_false_iff.mpr c6
   subst c6
   have H1 : (some (-1)) = some r:=by rw [if_neg (show ¬ (false = true) by decide)] at H;exact H
   clear H
   have H:=H1
   clear H1
   obtain rfl:=Option.some.inj H
   go_enter Tryd.func47,Tryd.ntmps47
   go_wp2_with (first |((with_reducible refine gate_callee (f:=59) rfl ?_);refine goesL_ (some 8) rfl rfl Tryd.func59 (by kernel_rfl) rfl #[.int .u64 a0] rfl zl ?_;(with_reducible refine(cmp_isNaN_uint64.calls a0 true _ A3.out).mono ?_);rintro e w' ⟨rfl,⟨nd,rfl⟩⟩;refine⟨_,rfl,?_⟩) |((with_reducible refine gate_callee (f:=59) rfl ?_);refine goesL_ (some 10) rfl rfl Tryd.func59 (by kernel_rfl) rfl #[.int .u64 a1] rfl zl ?_;(with_reducible refine(cmp_isNaN_uint64.calls a1 false _ A4.out).mono ?_);rintro e w' ⟨rfl,⟨nd,rfl⟩⟩;refine⟨_,rfl,?_⟩))
   go_ret
   exact⟨ze,by repeat (first | exact Drawn0.refl _ | apply Drawn0.step)⟩
 ·replace c5:=Bool.eq_false_iff.mpr c5
  subst c5
  have H1 : (if t180 = true then(some 1) else(if a0 < a1 then(some (-1)) else(if a0 > a1 then(some 1) else(some 0)))) = some r:=by rw [if_neg (show ¬ (false = true) by decide)] at H;exact H
  clear H
  have H:=H1
  clear H1
  by_cases c7 : t180 = true
  ·subst c7
   have H1 : (some 1) = some r:=by rw [if_pos rfl] at H;exact H
   clear H
   have H:=H1
   clear H1
   obtain rfl:=Option.some.inj H
   go_enter Tryd.func47,Tryd.ntmps47
   go_wp2_with (first |((with_reducible refine gate_callee (f:=59) rfl ?_);refine goesL_ (some 8) rfl rfl Tryd.func59 (by kernel_rfl) rfl #[.int .u64 a0] rfl zl ?_;(with_reducible refine(cmp_isNaN_uint64.calls a0 false _ A3.out).mono ?_);rintro e w' ⟨rfl,⟨nd,rfl⟩⟩;refine⟨_,rfl,?_⟩) |((with_reducible refine gate_callee (f:=59) rfl ?_);refine goesL_ (some 10) rfl rfl Tryd.func59 (by kernel_rfl) rfl #[.int .u64 a1] rfl zl ?_;(with_reducible refine(cmp_isNaN_uint64.calls a1 true _ A4.out).mono ?_);rintro e w' ⟨rfl,⟨nd,rfl⟩⟩;refine⟨_,rfl,?_⟩))
   go_ret
   exact⟨ze,by repeat (first | exact Drawn0.refl _ | apply Drawn0.step)⟩
  ·replace c7:=Bool.eq_false_iff.mpr c7
   subst c7
   have H1 : (if a0 < a1 then(some (-1)) else(if a0 > a1 then(some 1) else(some 0))) = some r:=by rw [if_neg (show ¬ (false = true) by decide)] at H;exact H
   clear H
   have H:=H1
   clear H1
   by_cases c8 : a0 < a1
   ·rw [if_pos c8] at H
    have c8b0 : decide (a0 < a1) = true:=decide_eq_true c8
    clear c8
    obtain rfl:=Option.some.inj H
    go_enter Tryd.func47,Tryd.ntmps47
    go_wp2_with (first |((with_reducible refine gate_callee (f:=59) rfl ?_);refine goesL_ (some 8) rfl rfl Tryd.func59 (by kernel_rfl) rfl #[.int .u64 a0] rfl zl ?_;(with_reducible refine(cmp_isNaN_uint64.calls a0 false _ A3.out).mono ?_);rintro e w' ⟨rfl,⟨nd,rfl⟩⟩;refine⟨_,rfl,?_⟩) |((with_reducible refine gate_callee (f:=59) rfl ?_);refine goesL_ (some 10) rfl rfl Tryd.func59 (by kernel_rfl) rfl #[.int .u64 a1] rfl zl ?_;(with_reducible refine(cmp_isNaN_uint64.calls a1 false _ A4.out).mono ?_);rintro e w' ⟨rfl,⟨nd,rfl⟩⟩;refine⟨_,rfl,?_⟩))
    go_ret
    exact⟨ze,by repeat (first | exact Drawn0.refl _ | apply Drawn0.step)⟩
   ·rw [if_neg c8] at H
    have c8b0 : decide (a0 < a1) = false:=decide_eq_false c8
    clear c8
    by_cases c9 : a0 > a1
    ·rw [if_pos c9] at H
     have c9b0 : decide (a1 < a0) = true:=decide_eq_true c9
     clear c9
     obtain rfl:=Option.some.inj H
     go_enter Tryd.func47,Tryd.ntmps47
     go_wp2_with (first |((with_reducible refine gate_callee (f:=59) rfl ?_);refine goesL_ (some 8) rfl rfl Tryd.func59 (by kernel_rfl) rfl #[.int .u64 a0] rfl zl ?_;(with_reducible refine(cmp_isNaN_uint64.calls a0 false _ A3.out).mono ?_);rintro e w' ⟨rfl,⟨nd,rfl⟩⟩;refine⟨_,rfl,?_⟩) |((with_reducible refine gate_callee (f:=59) rfl ?_);refine goesL_ (some 10) rfl rfl Tryd.func59 (by kernel_rfl) rfl #[.int .u64 a1] rfl zl ?_;(with_reducible refine(cmp_isNaN_uint64.calls a1 false _ A4.out).mono ?_);rintro e w' ⟨rfl,⟨nd,rfl⟩⟩;refine⟨_,rfl,?_⟩))
     go_ret
     exact⟨ze,by repeat (first | exact Drawn0.refl _ | apply Drawn0.step)⟩
    ·rw [if_neg c9] at H
     have c9b0 : decide (a1 < a0) = false:=decide_eq_false c9
     clear c9
     obtain rfl:=Option.some.inj H
     go_enter Tryd.func47,Tryd.ntmps47
     go_wp2_with (first |((with_reducible refine gate_callee (f:=59) rfl ?_);refine goesL_ (some 8) rfl rfl Tryd.func59 (by kernel_rfl) rfl #[.int .u64 a0] rfl zl ?_;(with_reducible refine(cmp_isNaN_uint64.calls a0 false _ A3.out).mono ?_);rintro e w' ⟨rfl,⟨nd,rfl⟩⟩;refine⟨_,rfl,?_⟩) |((with_reducible refine gate_callee (f:=59) rfl ?_);refine goesL_ (some 10) rfl rfl Tryd.func59 (by kernel_rfl) rfl #[.int .u64 a1] rfl zl ?_;(with_reducible refine(cmp_isNaN_uint64.calls a1 false _ A4.out).mono ?_);rintro e w' ⟨rfl,⟨nd,rfl⟩⟩;refine⟨_,rfl,?_⟩))
     go_ret
     exact⟨ze,by repeat (first | exact Drawn0.refl _ | apply Drawn0.step)⟩

/-! ### nat_number_compare: function 32 -/
mutual
def nat_number_compare.l0 : Nat→Int→Int→List Int→List Int→Option (Int)
 | 0,_,_,_,_=>none
 | k + 1,x5,x6,x182000,x183000=>if x6≥0 then(nat_number_compare.j1 k x5 x6 (x5 == 0) x182000 x183000) else(nat_number_compare.j1 k x5 x6 false x182000 x183000)
def nat_number_compare.j1 : Nat→Int→Int→Bool→List Int→List Int→Option (Int)
 | 0,_,_,_,_,_=>none
 | k + 1,x5,x6,x23,x182000,x183000=>if x23 = true then((nat_digits_at.f x182000 x6).bind fun t184=>((nat_digits_at.f x183000 x6).bind fun t185=>((cmp_Compare_uint64.f t184 t185).bind fun t186=>(nat_number_compare.l0 k t186 (wrap64 (x6 - 1)) x182000 x183000)))) else(some x5)
end
def nat_number_compare.f (k : Nat) (l0_0 : List Int) (l1_0 : List Int) : Option (Int):=(cmp_Compare_int.f (l0_0.length : Int) (l1_0.length : Int)).bind fun t183=>(nat_number_compare.l0 k t183 (wrap64 ((l0_0.length : Int) - 1)) l0_0 l1_0)
theorem nat_number_compare.calls (k : Nat) (A0_0 : Option Addr) (c0_0 : Nat) (l0_0 : List Int) (A1_0 : Option Addr) (c1_0 : Nat) (l1_0 : List Int) (r : Int) (w : World) (hr0_0 : Kd.C (Kd.int .u64) w A0_0 l0_0.length l0_0) (hc0_0 : l0_0.length≤c0_0) (hr1_0 : Kd.C (Kd.int .u64) w A1_0 l1_0.length l1_0) (hc1_0 : l1_0.length≤c1_0) (h : nat_number_compare.f k l0_0 l1_0 = some r) :
  Calls Tryd.prog 32 #[.agg #[.slice A0_0 l0_0.length c0_0],.agg #[.slice A1_0 l1_0.length c1_0]] w fun e w'=>e = .returned (.int .i64 r)∧Below w.heap.size w w':=by
 have hu47:=Tryd.underlying47
 have HR0_0:=am hr0_0
 have HC0_0:=am hc0_0
 clear hr0_0 hc0_0
 have HR1_0:=am hr1_0
 have HC1_0:=am hc1_0
 clear hr1_0 hc1_0
 have HB:=am (Below.refl w.heap.size w)
 have H : ((cmp_Compare_int.f (l0_0.length : Int) (l1_0.length : Int)).bind fun t183=>(nat_number_compare.l0 k t183 (wrap64 ((l0_0.length : Int) - 1)) l0_0 l1_0)) = some r:=h
 clear h
 replace H:=Option.bind_eq_some_iff.mp H
 obtain⟨t183,A30,H⟩:=H
 try dsimp only at H
 have A3:=am A30
 clear A30
 have H':=am H
 clear H
 go_enter Tryd.func32,Tryd.ntmps32
 go_wp2_with (first |((with_reducible refine gate_dst (N:=2) rfl ?_);refine box_event ?hg (N:=2) ?hd (cs:=#[.slice A0_0 l0_0.length c0_0]) (t:=47) ?hr ?_;(case hd=>rfl);(case hg=>rfl);(case hr=>exact zh);intro gb181 hg w4 hbox hb;have BK181:=am (hbox);have GW181:=gw w hg;have GE181:=gw w hg;replace HB:=am (below_step zb hb);clear hb hbox hg) |((with_reducible refine gate_dst (N:=3) rfl ?_);refine box_event ?hg (N:=3) ?hd (cs:=#[.slice A1_0 l1_0.length c1_0]) (t:=47) ?hr ?_;(case hd=>rfl);(case hg=>rfl);(case hr=>exact zh);intro gb182 hg w5 hbox hb;have BK182:=am (hbox);have GW182:=gw w hg;have GE182:=gw w hg;replace HB:=am (below_step zb hb);have NB181_182:=nl BK181 hg;have NB182_181:=nr BK181 hg;replace BK181:=kb BK181 hb;clear hb hbox hg;have hnb6:=NB181_182.out;have hnc6:=NB182_181.out;have hcz7_0 : w5.cell? ⟨gb181,0,none⟩ = some (.slice A0_0 l0_0.length c0_0):=(blk_cell BK181.out 0).trans rfl;have hfz7_0:=blk_frozen BK181.out 0;have hcz8_0 : w5.cell? ⟨gb182,0,none⟩ = some (.slice A1_0 l1_0.length c1_0):=(blk_cell BK182.out 0).trans rfl;have hfz8_0:=blk_frozen BK182.out 0) |(go_at_call 46;(with_reducible refine(cmp_Compare_int.calls (l0_0.length : Int) (l1_0.length : Int) t183 _ A3.out).mono ?_);rintro e w' ⟨rfl,⟨nd,rfl⟩⟩;(try first | exact⟨rfl,_,World.drewN_drewN _ _ _⟩ | exact⟨rfl,_,Eq.trans (World.drewN_drewN _ _ _) (congrArg (World.drewN _) (Nat.add_assoc _ _ _))⟩)))
 repeat (go_quiet (first |((with_reducible refine gate_dst (N:=2) rfl ?_);refine box_event ?hg (N:=2) ?hd (cs:=#[.slice A0_0 l0_0.length c0_0]) (t:=47) ?hr ?_;(case hd=>rfl);(case hg=>rfl);(case hr=>exact zh);intro gb181 hg w4 hbox hb;have BK181:=am (hbox);have GW181:=gw w hg;have GE181:=gw w hg;replace HB:=am (below_step zb hb);clear hb hbox hg) |((with_reducible refine gate_dst (N:=3) rfl ?_);refine box_event ?hg (N:=3) ?hd (cs:=#[.slice A1_0 l1_0.length c1_0]) (t:=47) ?hr ?_;(case hd=>rfl);(case hg=>rfl);(case hr=>exact zh);intro gb182 hg w5 hbox hb;have BK182:=am (hbox);have GW182:=gw w hg;have GE182:=gw w hg;replace HB:=am (below_step zb hb);have NB181_182:=nl BK181 hg;have NB182_181:=nr BK181 hg;replace BK181:=kb BK181 hb;clear hb hbox hg;have hnb6:=NB181_182.out;have hnc6:=NB182_181.out;have hcz7_0 : w5.cell? ⟨gb181,0,none⟩ = some (.slice A0_0 l0_0.length c0_0):=(blk_cell BK181.out 0).trans rfl;have hfz7_0:=blk_frozen BK181.out 0;have hcz8_0 : w5.cell? ⟨gb182,0,none⟩ = some (.slice A1_0 l1_0.length c1_0):=(blk_cell BK182.out 0).trans rfl;have hfz8_0:=blk_frozen BK182.out 0) |(go_at_call 46;(with_reducible refine(cmp_Compare_int.calls (l0_0.length : Int) (l1_0.length : Int) t183 _ A3.out).mono ?_);rintro e w' ⟨rfl,⟨nd,rfl⟩⟩;(try first | exact⟨rfl,_,World.drewN_drewN _ _ _⟩ | exact⟨rfl,_,Eq.trans (World.drewN_drewN _ _ _) (congrArg (World.drewN _) (Nat.add_assoc _ _ _))⟩)));try go_wp2_with (first |((with_reducible refine gate_dst (N:=2) rfl ?_);refine box_event ?hg (N:=2) ?hd (cs:=#[.slice A0_0 l0_0.length c0_0]) (t:=47) ?hr ?_;(case hd=>rfl);(case hg=>rfl);(case hr=>exact zh);intro gb181 hg w4 hbox hb;have BK181:=am (hbox);have GW181:=gw w hg;have GE181:=gw w hg;replace HB:=am (below_step zb hb);clear hb hbox hg) |((with_reducible refine gate_dst (N:=3) rfl ?_);refine box_event ?hg (N:=3) ?hd (cs:=#[.slice A1_0 l1_0.length c1_0]) (t:=47) ?hr ?_;(case hd=>rfl);(case hg=>rfl);(case hr=>exact zh);intro gb182 hg w5 hbox hb;have BK182:=am (hbox);have GW182:=gw w hg;have GE182:=gw w hg;replace HB:=am (below_step zb hb);have NB181_182:=nl BK181 hg;have NB182_181:=nr BK181 hg;replace BK181:=kb BK181 hb;clear hb hbox hg;have hnb6:=NB181_182.out;have hnc6:=NB182_181.out;have hcz7_0 : w5.cell? ⟨gb181,0,none⟩ = some (.slice A0_0 l0_0.length c0_0):=(blk_cell BK181.out 0).trans rfl;have hfz7_0:=blk_frozen BK181.out 0;have hcz8_0 : w5.cell? ⟨gb182,0,none⟩ = some (.slice A1_0 l1_0.length c1_0):=(blk_cell BK182.out 0).trans rfl;have hfz8_0:=blk_frozen BK182.out 0) |(go_at_call 46;(with_reducible refine(cmp_Compare_int.calls (l0_0.length : Int) (l1_0.length : Int) t183 _ A3.out).mono ?_);rintro e w' ⟨rfl,⟨nd,rfl⟩⟩;(try first | exact⟨rfl,_,World.drewN_drewN _ _ _⟩ | exact⟨rfl,_,Eq.trans (World.drewN_drewN _ _ _) (congrArg (World.drewN _) (Nat.add_assoc _ _ _))⟩))))
 go_loopg [5,6] k (fun kq v5 v6 w'=>∃ (x5_1 : Int) (x6_1 : Int),v5 = .int .i64 x5_1∧v6 = .int .i64 x6_1∧Aside0 (nat_number_compare.l0 kq x5_1 x6_1 l0_0 l1_0 = some r)∧Aside0 (kq≤k)∧Aside0 (w'.heap[gb181]? = some (.cells #[(.slice A0_0 l0_0.length c0_0)] 47 (0,0)))∧Aside0 (w'.heap[gb182]? = some (.cells #[(.slice A1_0 l1_0.length c1_0)] 47 (0,0)))∧Aside0 (Below w.heap.size w w'))
 case atStart=>exact⟨(t183),(wrap64 ((l0_0.length : Int) - 1)),ze,ze,H',⟨Nat.le_refl _⟩,⟨zk BK181.out⟩,⟨zk BK182.out⟩,⟨zb⟩⟩
 case round=>
  clear H'
  try clear c1
  try clear p2
  try clear c3
  try clear c6
  try clear p6
  try clear hcz7_0
  try clear hcz8_0
  try clear hfz7_0
  try clear hfz8_0
  obtain⟨x5_1,x6_1,rfl,rfl,HA,HK1,BK181,BK182,HB⟩:=hrel
  cases gk with
  | zero=>exact absurd HA.out (by simp [nat_number_compare.l0])
  | succ k1=>
   have H:=HA.out
   clear HA
   simp only [nat_number_compare.l0] at H
   have HC9:=am H
   clear H
   go_upto_region 3 with(fail)
   repeat (go_quiet (fail);go_upto_region 3 with(fail))
   go_cut [23] (fun v23 wc=>∃ (kq : Nat) (x23_8 : Bool),v23 = .bool x23_8∧Aside0 (nat_number_compare.j1 kq x5_1 x6_1 x23_8 l0_0 l1_0 = some r)∧Aside0 (kq≤k1)∧Aside0 (wc.heap[gb181]? = some (.cells #[(.slice A0_0 l0_0.length c0_0)] 47 (0,0)))∧Aside0 (wc.heap[gb182]? = some (.cells #[(.slice A1_0 l1_0.length c1_0)] 47 (0,0)))∧Aside0 (Below w.heap.size w wc))
   case first=>
    have H:=HC9.out
    clear HC9
    by_cases c10 : x6_1≥0
    ·rw [if_pos c10] at H
     have c10b0 : decide (0≤x6_1) = true:=decide_eq_true c10
     clear c10
     (first | rw [c10b0] |(simp only [i64_w,i32_w];rw [c10b0]) | rw [c10b1] | skip)
     have H':=am H
     clear H
     go_wp2
     repeat (go_quiet (fail);try go_wp2)
     go_meet
     case rel=>exact⟨_,((x5_1 == 0)),ze,H',⟨by have:=HK1.out;first | omega | exact Nat.le_refl _⟩,⟨zk BK181.out⟩,⟨zk BK182.out⟩,⟨zb⟩⟩
    ·rw [if_neg c10] at H
     have c10b0 : decide (0≤x6_1) = false:=decide_eq_false c10
     clear c10
     (first | rw [c10b0] |(simp only [i64_w,i32_w];rw [c10b0]) | rw [c10b1] | skip)
     have H':=am H
     clear H
     go_wp2
     repeat (go_quiet (fail);try go_wp2)
     go_meet
     case rel=>exact⟨_,(false),ze,H',⟨by have:=HK1.out;first | omega | exact Nat.le_refl _⟩,⟨zk BK181.out⟩,⟨zk BK182.out⟩,⟨zb⟩⟩
   case rest=>
    clear HC9
    try clear c1
    try clear p2
    try clear c3
    try clear c6
    try clear p6
    try clear c10
    try clear c10b0
    try clear c10b1
    try clear hcz7_0
    try clear hcz8_0
    try clear hfz7_0
    try clear hfz8_0
    try clear p2
    try clear p6
    obtain⟨kq,x23_8,rfl,HA,HJ8,BK181,BK182,HB⟩:=hcut
    cases kq with
    | zero=>exact absurd HA.out (by simp [nat_number_compare.j1])
    | succ kj8=>
     have H:=HA.out
     clear HA
     simp only [nat_number_compare.j1] at H
     by_cases c11 : x23_8 = true
     ·subst c11
      have H1 : ((nat_digits_at.f l0_0 x6_1).bind fun t184=>((nat_digits_at.f l1_0 x6_1).bind fun t185=>((cmp_Compare_uint64.f t184 t185).bind fun t186=>(nat_number_compare.l0 kj8 t186 (wrap64 (x6_1 - 1)) l0_0 l1_0)))) = some r:=by rw [if_pos rfl] at H;exact H
      clear H
      have H:=H1
      clear H1
      replace H:=Option.bind_eq_some_iff.mp H
      obtain⟨t184,A120,H⟩:=H
      try dsimp only at H
      have A12:=am A120
      clear A120
      replace H:=Option.bind_eq_some_iff.mp H
      obtain⟨t185,A130,H⟩:=H
      try dsimp only at H
      have A13:=am A130
      clear A130
      replace H:=Option.bind_eq_some_iff.mp H
      obtain⟨t186,A140,H⟩:=H
      try dsimp only at H
      have A14:=am A140
      clear A140
      have H':=am H
      clear H
      have hnb15:=NB181_182.out
      have hnc15:=NB182_181.out
      have hcz16_0 : wc.cell? ⟨gb181,0,none⟩ = some (.slice A0_0 l0_0.length c0_0):=(blk_cell BK181.out 0).trans rfl
      have hfz16_0:=blk_frozen BK181.out 0
      go_wp2_with (first |(go_at_call 43;(with_reducible refine(nat_digits_at.calls _ _ l0_0 x6_1 t184 _ ?side1 ?side2 A12.out).mono ?_);(case side1=>repeat (first | exact(Kd.C_below HR0_0.out HB.out) |(with_reducible refine Kd.C_alloc ?_ _) |(with_reducible refine Kd.C_drewN ?_ _) |(with_reducible refine Kd.C_drew ?_)));(case side2=>exact HC0_0.out);rintro e w' ⟨rfl,⟨nd,rfl⟩⟩;(try first | exact⟨rfl,_,World.drewN_drewN _ _ _⟩ | exact⟨rfl,_,Eq.trans (World.drewN_drewN _ _ _) (congrArg (World.drewN _) (Nat.add_assoc _ _ _))⟩);have hcz17_0 : wc.cell? ⟨gb182,0,none⟩ = some (.slice A1_0 l1_0.length c1_0):=(blk_cell BK182.out 0).trans rfl;have hfz17_0:=blk_frozen BK182.out 0) |(go_at_call 43;(with_reducible refine(nat_digits_at.calls _ _ l1_0 x6_1 t185 _ ?side1 ?side2 A13.out).mono ?_);(case side1=>repeat (first | exact(Kd.C_below HR1_0.out zb) |(with_reducible refine Kd.C_alloc ?_ _) |(with_reducible refine Kd.C_drewN ?_ _) |(with_reducible refine Kd.C_drew ?_)));(case side2=>exact HC1_0.out);rintro e w' ⟨rfl,⟨nd,rfl⟩⟩;(try first | exact⟨rfl,_,World.drewN_drewN _ _ _⟩ | exact⟨rfl,_,Eq.trans (World.drewN_drewN _ _ _) (congrArg (World.drewN _) (Nat.add_assoc _ _ _))⟩)) |(go_at_call 47;(with_reducible refine(cmp_Compare_uint64.calls t184 t185 t186 _ A14.out).mono ?_);rintro e w' ⟨rfl,⟨nd,rfl⟩⟩;(try first | exact⟨rfl,_,World.drewN_drewN _ _ _⟩ | exact⟨rfl,_,Eq.trans (World.drewN_drewN _ _ _) (congrArg (World.drewN _) (Nat.add_assoc _ _ _))⟩)))
      repeat (go_quiet (first |(go_at_call 43;(with_reducible refine(nat_digits_at.calls _ _ l0_0 x6_1 t184 _ ?side1 ?side2 A12.out).mono ?_);(case side1=>repeat (first | exact(Kd.C_below HR0_0.out HB.out) |(with_reducible refine Kd.C_alloc ?_ _) |(with_reducible refine Kd.C_drewN ?_ _) |(with_reducible refine Kd.C_drew ?_)));(case side2=>exact HC0_0.out);rintro e w' ⟨rfl,⟨nd,rfl⟩⟩;(try first | exact⟨rfl,_,World.drewN_drewN _ _ _⟩ | exact⟨rfl,_,Eq.trans (World.drewN_drewN _ _ _) (congrArg (World.drewN _) (Nat.add_assoc _ _ _))⟩);have hcz17_0 : wc.cell? ⟨gb182,0,none⟩ = some (.slice A1_0 l1_0.length c1_0):=(blk_cell BK182.out 0).trans rfl;have hfz17_0:=blk_frozen BK182.out 0) |(go_at_call 43;(with_reducible refine(nat_digits_at.calls _ _ l1_0 x6_1 t185 _ ?side1 ?side2 A13.out).mono ?_);(case side1=>repeat (first | exact(Kd.C_below HR1_0.out zb) |(with_reducible refine Kd.C_alloc ?_ _) |(with_reducible refine Kd.C_drewN ?_ _) |(with_reducible refine Kd.C_drew ?_)));(case side2=>exact HC1_0.out);rintro e w' ⟨rfl,⟨nd,rfl⟩⟩;(try first | exact⟨rfl,_,World.drewN_drewN _ _ _⟩ | exact⟨rfl,_,Eq.trans (World.drewN_drewN _ _ _) (congrArg (World.drewN _) (Nat.add_assoc _ _ _))⟩)) |(go_at_call 47;(with_reducible refine(cmp_Compare_uint64.calls t184 t185 t186 _ A14.out).mono ?_);rintro e w' ⟨rfl,⟨nd,rfl⟩⟩;(try first | exact⟨rfl,_,World.drewN_drewN _ _ _⟩ | exact⟨rfl,_,Eq.trans (World.drewN_drewN _ _ _) (congrArg (World.drewN _) (Nat.add_assoc _ _ _))⟩)));try go_wp2_with (first |(go_at_call 43;(with_reducible refine(nat_digits_at.calls _ _ l0_0 x6_1 t184 _ ?side1 ?side2 A12.out).mono ?_);(case side1=>repeat (first | exact(Kd.C_below HR0_0.out HB.out) |(with_reducible refine Kd.C_alloc ?_ _) |(with_reducible refine Kd.C_drewN ?_ _) |(with_reducible refine Kd.C_drew ?_)));(case side2=>exact HC0_0.out);rintro e w' ⟨rfl,⟨nd,rfl⟩⟩;(try first | exact⟨rfl,_,World.drewN_drewN _ _ _⟩ | exact⟨rfl,_,Eq.trans (World.drewN_drewN _ _ _) (congrArg (World.drewN _) (Nat.add_assoc _ _ _))⟩);have hcz17_0 : wc.cell? ⟨gb182,0,none⟩ = some (.slice A1_0 l1_0.length c1_0):=(blk_cell BK182.out 0).trans rfl;have hfz17_0:=blk_frozen BK182.out 0) |(go_at_call 43;(with_reducible refine(nat_digits_at.calls _ _ l1_0 x6_1 t185 _ ?side1 ?side2 A13.out).mono ?_);(case side1=>repeat (first | exact(Kd.C_below HR1_0.out zb) |(with_reducible refine Kd.C_alloc ?_ _) |(with_reducible refine Kd.C_drewN ?_ _) |(with_reducible refine Kd.C_drew ?_)));(case side2=>exact HC1_0.out);rintro e w' ⟨rfl,⟨nd,rfl⟩⟩;(try first | exact⟨rfl,_,World.drewN_drewN _ _ _⟩ | exact⟨rfl,_,Eq.trans (World.drewN_drewN _ _ _) (congrArg (World.drewN _) (Nat.add_assoc _ _ _))⟩)) |(go_at_call 47;(with_reducible refine(cmp_Compare_uint64.calls t184 t185 t186 _ A14.out).mono ?_);rintro e w' ⟨rfl,⟨nd,rfl⟩⟩;(try first | exact⟨rfl,_,World.drewN_drewN _ _ _⟩ | exact⟨rfl,_,Eq.trans (World.drewN_drewN _ _ _) (congrArg (World.drewN _) (Nat.add_assoc _ _ _))⟩))))
      go_roundg kj8
      case measure=>have:=HK1.out;have:=HJ8.out;omega
      case rel=>exact⟨(t186),(wrap64 (x6_1 - 1)),ze,ze,H',⟨by have:=HK1.out;have:=HJ8.out;omega⟩,⟨zk BK181.out⟩,⟨zk BK182.out⟩,⟨zb⟩⟩
     ·replace c11:=Bool.eq_false_iff.mpr c11
      subst c11
      have H1 : (some x5_1) = some r:=by rw [if_neg (show ¬ (false = true) by decide)] at H;exact H
      clear H
      have H:=H1
      clear H1
      obtain rfl:=Option.some.inj H
      go_wp2
      repeat (go_quiet (fail);try go_wp2)
      go_ret
      exact⟨zf,zb⟩

end Go.Proofs.YtnkkndninilciaaDoor.X

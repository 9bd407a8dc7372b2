-- Printed by xprint.py, this session's own program (wip/tool), out of the translation. Lean checks it.
import Derived.Test.YtnkkndninilciaaDoorZ
import Derived.Test.YtnkkndninilciaaDoorX0
import Derived.Test.YtnkkndninilciaaDoorX1
import Derived.Test.YtnkkndninilciaaDoorX3
import Derived.Test.YtnkkndninilciaaDoorX4
namespace Go.Proofs.YtnkkndninilciaaDoor.X
open Go.Proofs.YtnkkndninilciaaDoor.Z
open Go.RowKit Go.Proofs.YtnkkndninilciaaDoorW.PrintWords Go.Proofs.YtnkkndninilciaaDoorW.PrintLast Go.Proofs.YtnkkndninilciaaDoorW.PrintMore
open List renaming setIfInBounds_toArray → sA, set_cons_zero → sZ, set_cons_succ → sS
open Aside0 renaming mk → am
open Bool renaming true → tt, false → ff
set_option maxHeartbeats 8000000
set_option maxRecDepth 100000
attribute [local go_sem] max2_int min2_int max_two min_two max_three min_three max_four min_four   -- for this text's walks alone
set_option linter.unusedVariables false
set_option linter.unusedSimpArgs false

/-! ### nat_number_parted: function 35 -/
def nat_number_parted.l0 : Nat→List Int→Int→List Int→List Int→List Int→Option (List Int×List Int)
 | 0,_,_,_,_,_=>none
 | k + 1,x6,x7,x221000,x222000,x224000=>if x7≥0 then((nat_digits_at.f x221000 x7).bind fun t230=>((some (([t230] : List Int) : List Int)).bind fun y231=>(if y231.length + x224000.length < 17592186044416 then((nat_carried.f k (y231 ++ x224000)).bind fun t237=>((nat_number_digit.f k t237 x222000).bind fun t240=>(if 0≤x7 then(if x7 < (x6.length : Int) then((some (x6.set (x7 : Int).toNat t240 : List Int)).bind fun y241=>((nat_number_scaled.f k x222000 (rd y241 x7)).bind fun t243=>((nat_number_less.f k t237 t243).bind fun t246=>(nat_number_parted.l0 k y241 (wrap64 (x7 - 1)) x221000 x222000 t246)))) else(none)) else(none)))) else(none)))) else((nat_carried.f k x6).bind fun t227=>(some (t227,x224000)))
def nat_number_parted.f (k : Nat) (l0_0 : List Int) (l1_0 : List Int) : Option (List Int×List Int):=if 0≤(l0_0.length : Int) then(if ((l0_0.length : Int) : Int).toNat≤35184372088832 then((some (List.replicate ((l0_0.length : Int) : Int).toNat 0 : List Int)).bind fun y224=>(nat_number_parted.l0 k y224 (wrap64 ((y224.length : Int) - 1)) l0_0 l1_0 ([] : List Int))) else(none)) else(none)
def nat_number_parted.T5 : Bool×List (List Nat×List Nat):=(true,[([],[]),([0],[0]),([],[]),([1,2],[1,2]),([3],[3]),([],[]),([5],[5]),([4,6,3],[4,6]),([7,7],[7]),([8,8,0,1,2,3,4,5,6,7,8],[8])])
def nat_number_parted.B5 : List Nat:=[0,1,0,7,15,0,32,127,255,511]
theorem nat_number_parted.tab5 : rtab .any (opsOf Tryd.f35 5) = nat_number_parted.T5:=by kernel_rfl
theorem nat_number_parted.bits5 : waitsOk nat_number_parted.T5.2 nat_number_parted.B5 = true:=by kernel_rfl
def nat_number_parted.T7 : Bool×List (List Nat×List Nat):=(true,[([],[]),([],[]),([],[]),([],[]),([2,3],[2,3]),([4],[4]),([1,5],[1,5]),([0,6,6],[0,6]),([7,7,0,1,2,3,4,5,6,7],[7])])
def nat_number_parted.B7 : List Nat:=[0,0,0,0,12,28,62,127,255]
theorem nat_number_parted.tab7 : rtab .any (opsOf Tryd.f35 7) = nat_number_parted.T7:=by kernel_rfl
theorem nat_number_parted.bits7 : waitsOk nat_number_parted.T7.2 nat_number_parted.B7 = true:=by kernel_rfl
theorem nat_number_parted.calls (k : Nat) (A0_0 : Option Addr) (c0_0 : Nat) (l0_0 : List Int) (A1_0 : Option Addr) (c1_0 : Nat) (l1_0 : List Int) (r1 : List Int) (r2 : List Int) (w : World) (hr0_0 : Kd.C (Kd.int .u64) w A0_0 l0_0.length l0_0) (hc0_0 : l0_0.length≤c0_0) (hr1_0 : Kd.C (Kd.int .u64) w A1_0 l1_0.length l1_0) (hc1_0 : l1_0.length≤c1_0) (h : nat_number_parted.f k l0_0 l1_0 = some (r1,r2)) :
  Calls Tryd.prog 35 #[.agg #[.slice A0_0 l0_0.length c0_0],.agg #[.slice A1_0 l1_0.length c1_0]] w fun e w'=>∃ v0_ v1_ : Value,e = .returned (.tuple #[.agg #[v0_],.agg #[v1_]])∧Kd.R (Kd.int .u64) 55 w' w.heap.size (fun k_=>some k_≠(v1_ : Value).ownBlock) v0_ r1∧Kd.R (Kd.int .u64) 55 w' w.heap.size (fun k_=>some k_≠(v0_ : Value).ownBlock) v1_ r2∧Below w.heap.size w w':=by
 have hu47:=Tryd.underlying47
 have HR0_0:=am hr0_0
 have HC0_0:=am hc0_0
 clear hr0_0 hc0_0
 have HR1_0:=am hr1_0
 have HC1_0:=am hc1_0
 clear hr1_0 hc1_0
 have HB:=am (Below.refl w.heap.size w)
 have H : (if 0≤(l0_0.length : Int) then(if ((l0_0.length : Int) : Int).toNat≤35184372088832 then((some (List.replicate ((l0_0.length : Int) : Int).toNat 0 : List Int)).bind fun y224=>(nat_number_parted.l0 k y224 (wrap64 ((y224.length : Int) - 1)) l0_0 l1_0 ([] : List Int))) else(none)) else(none)) = some (r1,r2):=h
 clear h
 by_cases c3 : 0≤(l0_0.length : Int)
 ·rw [if_pos c3] at H
  have c3b0:=eq_true c3
  have c3b1 : decide (0≤(l0_0.length : Int)) = true:=decide_eq_true c3
  clear c3
  by_cases c4 : ((l0_0.length : Int) : Int).toNat≤35184372088832
  ·rw [if_pos c4] at H
   have c4b0:=eq_true c4
   have c4b1 : decide (((l0_0.length : Int) : Int).toNat≤35184372088832) = true:=decide_eq_true c4
   clear c4
   obtain⟨y224,hy224⟩ : ∃ y_ : List Int,y_ = (List.replicate ((l0_0.length : Int) : Int).toNat 0):=⟨_,rfl⟩
   replace H : (nat_number_parted.l0 k y224 (wrap64 ((y224.length : Int) - 1)) l0_0 l1_0 ([] : List Int)) = some (r1,r2):=by first |(rw [hy224];with_reducible exact H) |(have H2_:=(Option.bind_some _ _).symm.trans H;rw [hy224];with_reducible exact H2_) |(have H2_:=(Option.bind_some _ _).symm.trans H;with_reducible exact H2_) | with_reducible exact H |(rw [hy224];exact H) | exact H
   have Ny224:=am hy224
   clear hy224
   have H':=am H
   clear H
   go_enter Tryd.func35,Tryd.ntmps35
   go_wp2_with (first |((with_reducible refine gate_dst (N:=2) rfl ?_);refine box_event ?hg (N:=2) ?hd (cs:=#[.slice A0_0 l0_0.length c0_0]) (t:=47) ?hr ?_;(case hd=>rfl);(case hg=>rfl);(case hr=>exact zh);intro gb220 hg w5 hbox hb;have BK220:=am (hbox);have GW220:=gw w hg;have GE220:=gw w hg;replace HB:=am (below_step zb hb);clear hb hbox hg) |((with_reducible refine gate_dst (N:=3) rfl ?_);refine box_event ?hg (N:=3) ?hd (cs:=#[.slice A1_0 l1_0.length c1_0]) (t:=47) ?hr ?_;(case hd=>rfl);(case hg=>rfl);(case hr=>exact zh);intro gb221 hg w6 hbox hb;have BK221:=am (hbox);have GW221:=gw w hg;have GE221:=gw w hg;replace HB:=am (below_step zb hb);have NB220_221:=nl BK220 hg;have NB221_220:=nr BK220 hg;replace BK220:=kb BK220 hb;clear hb hbox hg) |((with_reducible refine gate_dst (N:=4) rfl ?_);refine box_event ?hg (N:=4) ?hd (cs:=#[.slice none 0 0]) (t:=47) ?hr ?_;(case hd=>rfl);(case hg=>rfl);(case hr=>exact zh);intro gb222 hg w7 hbox hb;have BK222:=am (hbox);have GW222:=gw w hg;have GE222:=gw w hg;replace HB:=am (below_step zb hb);have NB220_222:=nl BK220 hg;have NB222_220:=nr BK220 hg;replace BK220:=kb BK220 hb;have NB221_222:=nl BK221 hg;have NB222_221:=nr BK221 hg;replace BK221:=kb BK221 hb;clear hb hbox hg) |((with_reducible refine gate_dst (N:=5) rfl ?_);refine box_event ?hg (N:=5) ?hd (cs:=#[.slice none 0 0]) (t:=47) ?hr ?_;(case hd=>rfl);(case hg=>rfl);(case hr=>exact zh);intro gb223 hg w8 hbox hb;have BK223:=am (hbox);have GW223:=gw w hg;have GE223:=gw w hg;replace HB:=am (below_step zb hb);have NB220_223:=nl BK220 hg;have NB223_220:=nr BK220 hg;replace BK220:=kb BK220 hb;have NB221_223:=nl BK221 hg;have NB223_221:=nr BK221 hg;replace BK221:=kb BK221 hb;have NB222_223:=nl BK222 hg;have NB223_222:=nr BK222 hg;replace BK222:=kb BK222 hb;clear hb hbox hg;have hnb9:=NB220_221.out;have hnc9:=NB221_220.out;have hnb10:=NB220_222.out;have hnc10:=NB222_220.out;have hnb11:=NB220_223.out;have hnc11:=NB223_220.out;have hcz12_0 : w8.cell? ⟨gb220,0,none⟩ = some (.slice A0_0 l0_0.length c0_0):=(blk_cell BK220.out 0).trans rfl;have hfz12_0:=blk_frozen BK220.out 0) |((with_reducible refine gate_dst (N:=11) rfl ?_);refine Kd.R_make (Kd.int .u64) _ 55 rfl (N:=11) rfl 45 _ _ rfl (l0_0.length : Int) rfl rfl Tryd.underlying45 (.int .u64 0) 8 info55 rfl (by decide) (by omega) 0 (ok:=fun _=>True) (okp:=fun _=>True) rfl (fun _ hk=>hk) trivial (of_decide_eq_true za) (Nat.le_trans (Nat.mul_le_mul_right _ (of_decide_eq_true za : (l0_0.length : Int).toNat≤35184372088832)) (by omega)) (Below.refl _ _) (Nat.le_refl _) ?_;intro v225 w13 ho14 hb hg_ hnew_;clear hg_ hnew_;(first | rw [← Ny224.out] at ho14 |(simp only [Int.reduceToNat] at ho14;rw [← Ny224.out] at ho14));have HO226:=am (Kd.R_lower ho14 (below_size zb));replace BK220:=kb BK220 hb;replace BK221:=kb BK221 hb;replace BK222:=kb BK222 hb;replace BK223:=kb BK223 hb;replace HB:=am (below_step zb hb);clear hb ho14;obtain⟨Ao15,co15,eo15⟩:=Kd.R_slice HO226.out;subst eo15))
   go_loopg [7] k (fun kq v7 w'=>∃ (x6_1 : List Int) (x7_1 : Int) (x224000_1 : List Int) (u224000 : Value),v7 = .int .i64 x7_1∧Aside0 (nat_number_parted.l0 kq x6_1 x7_1 l0_0 l1_0 x224000_1 = some (r1,r2))∧Aside0 (kq≤k)∧Aside0 (Kd.R (Kd.int .u64) 55 w' w.heap.size (fun k_=>some k_≠(u224000 : Value).ownBlock) (.slice Ao15 y224.length co15) x6_1)∧Aside0 (Kd.R (Kd.int .u64) 55 w' w.heap.size (fun k_=>some k_≠((.slice Ao15 y224.length co15) : Value).ownBlock) u224000 x224000_1)∧Aside0 (w'.heap[gb220]? = some (.cells #[(.slice A0_0 l0_0.length c0_0)] 47 (0,0)))∧Aside0 (w'.heap[gb221]? = some (.cells #[(.slice A1_0 l1_0.length c1_0)] 47 (0,0)))∧Aside0 (w'.heap[gb222]? = some (.cells #[(.slice none 0 0)] 47 (0,0)))∧Aside0 (w'.heap[gb223]? = some (.cells #[u224000] 47 (0,0)))∧Aside0 (Below w.heap.size w w'))
   case atStart=>exact⟨(y224),(wrap64 ((y224.length : Int) - 1)),(([] : List Int)),(.slice none 0 0),ze,H',⟨Nat.le_refl _⟩,⟨by refine zR ?_;exact Kd.R_mono HO226.out (fun _ hk=>(by simp [Value.ownBlock]))⟩,⟨by first | exact Kd.R_nil _ _ _ _ _ | exact Kd.N_nil _ _ _ _ _ | exact Kd.V_nil _ _ _ _ _ | exact Kd.Q_nil _ _ _ _ _ | exact Kd.S_nil _ _ _ _ _⟩,⟨zk BK220.out⟩,⟨zk BK221.out⟩,⟨zk BK222.out⟩,⟨zk BK223.out⟩,⟨zb⟩⟩
   case round=>
    clear H'
    try clear c1
    try clear p2
    try clear c3
    try clear c3b0
    try clear c3b1
    try clear c4
    try clear c4b0
    try clear c4b1
    try clear p6
    try clear c9
    try clear c10
    try clear c11
    try clear hcz12_0
    try clear hfz12_0
    obtain⟨x6_1,x7_1,x224000_1,u224000,rfl,HA,HK1,HO_6,HO_224000,BK220,BK221,BK222,BK223,HB⟩:=hrel
    have hl6_1:=(Kd.R_reads' HO_6.out).1
    rw [hl6_1] at HO_6
    (try simp only [hl6_1])
    (try simp only [hl6_1] at BK220)
    (try simp only [hl6_1] at BK221)
    (try simp only [hl6_1] at BK222)
    (try simp only [hl6_1] at BK223)
    (try simp only [hl6_1] at HO_224000)
    cases gk with
    | zero=>exact absurd HA.out (by simp [nat_number_parted.l0])
    | succ k1=>
     have H:=HA.out
     clear HA
     simp only [nat_number_parted.l0] at H
     by_cases c16 : x7_1≥0
     ·rw [if_pos c16] at H
      have c16b0 : decide (0≤x7_1) = true:=decide_eq_true c16
      clear c16
      replace H:=Option.bind_eq_some_iff.mp H
      obtain⟨t230,A170,H⟩:=H
      try dsimp only at H
      have A17:=am A170
      clear A170
      obtain⟨y231,hy231⟩ : ∃ y_ : List Int,y_ = (([t230] : List Int)):=⟨_,rfl⟩
      replace H : (if y231.length + x224000_1.length < 17592186044416 then((nat_carried.f k1 (y231 ++ x224000_1)).bind fun t237=>((nat_number_digit.f k1 t237 l1_0).bind fun t240=>(if 0≤x7_1 then(if x7_1 < (x6_1.length : Int) then((some (x6_1.set (x7_1 : Int).toNat t240 : List Int)).bind fun y241=>((nat_number_scaled.f k1 l1_0 (rd y241 x7_1)).bind fun t243=>((nat_number_less.f k1 t237 t243).bind fun t246=>(nat_number_parted.l0 k1 y241 (wrap64 (x7_1 - 1)) l0_0 l1_0 t246)))) else(none)) else(none)))) else(none)) = some (r1,r2):=by first |(rw [hy231];with_reducible exact H) |(have H2_:=(Option.bind_some _ _).symm.trans H;rw [hy231];with_reducible exact H2_) |(have H2_:=(Option.bind_some _ _).symm.trans H;with_reducible exact H2_) | with_reducible exact H |(rw [hy231];exact H) | exact H
      have Ny231:=am hy231
      clear hy231
      by_cases c18 : y231.length + x224000_1.length < 17592186044416
      ·rw [if_pos c18] at H
       have LMc18:=am c18
       clear c18
       obtain⟨y234,hy234⟩ : ∃ y_ : List Int,y_ = (y231 ++ x224000_1):=⟨_,rfl⟩
       replace H : ((nat_carried.f k1 y234).bind fun t237=>((nat_number_digit.f k1 t237 l1_0).bind fun t240=>(if 0≤x7_1 then(if x7_1 < (x6_1.length : Int) then((some (x6_1.set (x7_1 : Int).toNat t240 : List Int)).bind fun y241=>((nat_number_scaled.f k1 l1_0 (rd y241 x7_1)).bind fun t243=>((nat_number_less.f k1 t237 t243).bind fun t246=>(nat_number_parted.l0 k1 y241 (wrap64 (x7_1 - 1)) l0_0 l1_0 t246)))) else(none)) else(none)))) = some (r1,r2):=by first |(rw [hy234];with_reducible exact H) |(have H2_:=(Option.bind_some _ _).symm.trans H;rw [hy234];with_reducible exact H2_) |(have H2_:=(Option.bind_some _ _).symm.trans H;with_reducible exact H2_) | with_reducible exact H |(rw [hy234];exact H) | exact H
       have Ny234:=am hy234
       clear hy234
       replace H:=Option.bind_eq_some_iff.mp H
       obtain⟨t237,A190,H⟩:=H
       try dsimp only at H
       have A19:=am A190
       clear A190
       replace H:=Option.bind_eq_some_iff.mp H
       obtain⟨t240,A200,H⟩:=H
       try dsimp only at H
       have A20:=am A200
       clear A200
       by_cases c21 : 0≤x7_1
       ·rw [if_pos c21] at H
        have c21b0 : decide (0≤x7_1) = true:=decide_eq_true c21
        clear c21
        by_cases c22 : x7_1 < (x6_1.length : Int)
        ·rw [if_pos c22] at H
         have c22b0 : decide (x7_1 < (x6_1.length : Int)) = true:=decide_eq_true c22
         (try simp only [hl6_1] at c22b0)
         clear c22
         obtain⟨y241,hy241⟩ : ∃ y_ : List Int,y_ = (x6_1.set (x7_1 : Int).toNat t240):=⟨_,rfl⟩
         replace H : ((nat_number_scaled.f k1 l1_0 (rd y241 x7_1)).bind fun t243=>((nat_number_less.f k1 t237 t243).bind fun t246=>(nat_number_parted.l0 k1 y241 (wrap64 (x7_1 - 1)) l0_0 l1_0 t246))) = some (r1,r2):=by first |(rw [hy241];with_reducible exact H) |(have H2_:=(Option.bind_some _ _).symm.trans H;rw [hy241];with_reducible exact H2_) |(have H2_:=(Option.bind_some _ _).symm.trans H;with_reducible exact H2_) | with_reducible exact H |(rw [hy241];exact H) | exact H
         have Ny241:=am hy241
         clear hy241
         replace H:=Option.bind_eq_some_iff.mp H
         obtain⟨t243,A240,H⟩:=H
         try dsimp only at H
         have A24:=am A240
         clear A240
         replace H:=Option.bind_eq_some_iff.mp H
         obtain⟨t246,A250,H⟩:=H
         try dsimp only at H
         have A25:=am A250
         clear A250
         have H':=am H
         clear H
         try go_wp2
         replace HO_6:=am (Kd.R_drew HO_6.out)
         replace HO_224000:=am (Kd.R_drew HO_224000.out)
         replace BK220:=am (blk_drew BK220.out)
         replace BK221:=am (blk_drew BK221.out)
         replace BK222:=am (blk_drew BK222.out)
         replace BK223:=am (blk_drew BK223.out)
         replace HB:=am (below_drew1 HB.out)
         refine start_ (n:=10) (S:=fun w'=>w'.cell? ⟨gb220,0,none⟩ = some (.slice A0_0 l0_0.length c0_0)∧w'.cell? ⟨gb223,0,none⟩ = some (u224000)) (ds:=[9]) #[ff,ff,ff,ff,ff,ff,ff,ff,ff,ff] (by kernel_rfl) rfl rfl ⟨(blk_cell BK220.out 0).trans rfl,(blk_cell BK223.out 0).trans rfl⟩ (fun hHeld=>?_);refine with_tabW nat_number_parted.tab5 nat_number_parted.bits5 (fun HT_ HW_=>?_)
         generalize wr.drew = w26 at HO_6 HO_224000 BK220 BK221 BK222 BK223 HB hHeld ⊢
         refine pu (i:=0) (N:=some 19) #[tt,ff,ff,ff,ff,ff,ff,ff,ff,ff] (any_of HT_.out (by kernel_rfl)) ?_
         refine pu (i:=2) (N:=some 21) #[tt,ff,tt,ff,ff,ff,ff,ff,ff,ff] (any_of HT_.out (by kernel_rfl)) ?_
         refine pu (i:=5) (N:=some 24) #[tt,ff,tt,ff,ff,tt,ff,ff,ff,ff] (any_of HT_.out (by kernel_rfl)) ?_
         refine take_ (i:=1) (N:=some 20) (v:=?_) (a':=?_) #[tt,tt,tt,ff,ff,tt,ff,ff,ff,ff] rfl rfl (take_ofW HT_.out HW_.out (by kernel_rfl)) (fun _ _ _ h=>h) (Or.inl ⟨by rfl,?_⟩) hHeld ?_ ?_
         rotate_left
         ·rintro w' ⟨s0,s1⟩
          go_simp
          with_reducible rfl
         rotate_left
         ·simp only [Act.put,sA,sZ,sS,i64_w,i32_w]
          rfl
         refine take_ (i:=6) (N:=some 25) (v:=?_) (a':=?_) #[tt,tt,tt,ff,ff,tt,tt,ff,ff,ff] rfl rfl (take_ofW HT_.out HW_.out (by kernel_rfl)) (fun _ _ _ h=>h) (Or.inl ⟨by rfl,?_⟩) hHeld ?_ ?_
         rotate_left
         ·rintro w' ⟨s0,s1⟩
          go_simp
          with_reducible rfl
         rotate_left
         ·simp only [Act.put,sA,sZ,sS,i64_w,i32_w]
          rfl
         refine one_ (i:=3) (N:=some 22) #[tt,tt,tt,tt,ff,tt,tt,ff,ff,ff] rfl rfl (one_of HT_.out (by kernel_rfl)) (by decide) (fun K hK=>?_)
         refine goes_ Tryd.func43 (by kernel_rfl) rfl #[.slice A0_0 l0_0.length c0_0,.int .i64 x7_1] (by rfl) rfl rfl zl ?_
         with_reducible refine(nat_digits_at.calls _ _ l0_0 x7_1 t230 _ ?side1 ?side2 A17.out).mono ?_
         (case side1=>repeat (first | exact(Kd.C_below HR0_0.out HB.out) |(with_reducible refine Kd.C_alloc ?_ _) |(with_reducible refine Kd.C_drewN ?_ _) |(with_reducible refine Kd.C_drew ?_)))
         (case side2=>exact HC0_0.out)
         rintro e w' ⟨rfl,⟨nd,rfl⟩⟩
         refine⟨_,rfl,?_⟩
         refine hK.out _ _ ⟨(blk_cell BK220.out 0).trans rfl,(blk_cell BK223.out 0).trans rfl⟩ (fun hHeld=>?_)
         clear hK K
         refine norm_ (a':=?_) ?_ ?_
         rotate_left
         ·show Act.put _ (some 22) _ = _
          simp only [Act.put,sA,sZ,sS,i64_w,i32_w]
          rfl
         refine one_ (i:=4) (N:=some 23) #[tt,tt,tt,tt,tt,tt,tt,ff,ff,ff] rfl rfl (one_of HT_.out (by kernel_rfl)) (by decide) (fun K hK=>?_)
         refine Kd.R_lit_step (Kd.int .u64) _ 55 ?hg (N:=23) ?hd (xs:=([t230] : List Int)) (inner:=[.int .u64 t230]) (ok:=fun _=>True) (okp:=fun _=>True) ?hr ?hp (fun _ hk=>hk) trivial (Below.refl _ _) (Nat.le_refl _) (by simp) ?_;(case hd=>rfl);(case hg=>rfl);(case hr=>exact zh);(case hp=>exact(Reps.one (show Kd.M (Kd.int .u64) _ _ _ t230 [.int .u64 t230] from rfl) (Reps.none _ _)))
         intro v232 w27 ho28 hb hg_ hnew_
         clear hg_ hnew_
         (first | rw [← Ny231.out] at ho28 |(simp only [Int.reduceToNat] at ho28;rw [← Ny231.out] at ho28))
         have HO233:=am (Kd.R_lower (Kd.R_new' (Kd.R_new' ho28 (Kd.R_lt (zR HO_6.out))) (Kd.R_lt (zR HO_224000.out))) (below_size zb))
         replace HO_6:=re HO_6 (Kd.R_base ho28) hb
         replace HO_224000:=re HO_224000 (Kd.R_base ho28) hb
         replace BK220:=kb BK220 hb
         replace BK221:=kb BK221 hb
         replace BK222:=kb BK222 hb
         replace BK223:=kb BK223 hb
         replace HB:=am (below_step zb hb)
         clear hb ho28
         obtain⟨Ao30,co30,eo30⟩:=Kd.R_slice HO_224000.out
         (first | subst eo30 |(injection eo30 with f1_ f2_ f3_;have f4_:=f1_.symm;have f5_:=f3_.symm;clear f1_ f2_ f3_;subst f4_;subst f5_))
         refine hK.out _ _ ⟨(blk_cell BK220.out 0).trans rfl,(blk_cell BK223.out 0).trans rfl⟩ (fun hHeld=>?_)
         clear hK K
         refine norm_ (a':=?_) ?_ ?_
         rotate_left
         ·show Act.put _ (some 23) _ = _
          simp only [Act.put,sA,sZ,sS,i64_w,i32_w]
          rfl
         refine one_ (i:=7) (N:=some 26) #[tt,tt,tt,tt,tt,tt,tt,tt,ff,ff] rfl rfl (one_of HT_.out (by kernel_rfl)) (by decide) (fun K hK=>?_)
         refine Kd.R_append_rows_step (Kd.int .u64) (w0:=w) w.heap.size (by rfl) (.tmp 23) (.tmp 25) 45 55 (.int .u64 0) 8 rfl Tryd.underlying45 info55 rfl (by decide) (by omega) v232 y231 x224000_1 _ _ _ (fun k_=>some k_≠(.slice Ao15 x6_1.length co15 : Value).ownBlock∧some k_≠(.slice Ao30 x224000_1.length co30 : Value).ownBlock) (fun _=>False) rfl rfl ?aO ?aR (fun _ _ h=>h) (fun _ h=>h.elim) ?aF ?aB ?aS ?aL ?_
         (case aR=>exact zC (Kd.R_reads' HO_224000.out).2.2)
         (case aB=>exact zb)
         (case aF=>exact(fun k_ hk=>⟨Kd.fresh' (Kd.R_lt (zR HO_6.out)) k_ hk,Kd.fresh' (Kd.R_lt (zR HO_224000.out)) k_ hk⟩))
         (case aO=>exact(by refine zR ?_;exact Kd.R_mono HO233.out (fun _ hk=>⟨hk.1.2,hk.2⟩)))
         (case aS=>exact(below_size zb))
         (case aL=>have:=LMc18.out;omega)
         intro v235 w29 ho hb hg hat
         rw [← Ny234.out] at ho
         replace HO_6:=am (Kd.R_after (ok:=(fun k_=>some k_≠(.slice Ao30 x224000_1.length co30 : Value).ownBlock)) (zR HO_6.out) hg hat)
         replace HO_224000:=am (Kd.R_after (ok:=(fun k_=>some k_≠(.slice Ao15 x6_1.length co15 : Value).ownBlock)) (zR HO_224000.out) hg hat)
         replace BK220:=am (blk_grown (zk BK220.out) hg (Kd.R_ne HO233.out BK220.out (by decide)))
         replace BK221:=am (blk_grown (zk BK221.out) hg (Kd.R_ne HO233.out BK221.out (by decide)))
         replace BK222:=am (blk_grown (zk BK222.out) hg (Kd.R_ne HO233.out BK222.out (by decide)))
         replace BK223:=am (blk_grown (zk BK223.out) hg (Kd.R_ne HO233.out BK223.out (by decide)))
         replace HB:=am (hb)
         have HO236:=am (ho)
         clear HO233
         clear ho hb hg hat
         obtain⟨Ao31,co31,eo31⟩:=Kd.R_slice HO236.out
         (first | subst eo31 |(injection eo31 with f1_ f2_ f3_;have f4_:=f1_.symm;have f5_:=f3_.symm;clear f1_ f2_ f3_;subst f4_;subst f5_))
         refine hK.out _ _ ⟨(blk_cell BK220.out 0).trans rfl,(blk_cell BK223.out 0).trans rfl⟩ (fun hHeld=>?_)
         clear hK K
         refine norm_ (a':=?_) ?_ ?_
         rotate_left
         ·show Act.put _ (some 26) _ = _
          simp only [Act.put,sA,sZ,sS,i64_w,i32_w]
          rfl
         refine one_ (i:=8) (N:=some 27) #[tt,tt,tt,tt,tt,tt,tt,tt,tt,ff] rfl rfl (one_of HT_.out (by kernel_rfl)) (by decide) (fun K hK=>?_)
         refine goes_ Tryd.func38 (by kernel_rfl) rfl #[.slice Ao31 y234.length co31] (by rfl) rfl rfl zl ?_
         with_reducible refine(nat_carried.calls k1 _ _ y234 t237 _ ?side1 ?side2 A19.out).mono ?_
         (case side1=>exact zC (Kd.R_reads' HO236.out).2.2)
         (case side2=>exact(Kd.R_reads' HO236.out).2.1)
         rintro e w32 ⟨v238,rfl,ho0,hb⟩
         refine⟨_,rfl,?_⟩
         have HO239:=am (Kd.R_lower (Kd.R_new' (Kd.R_new' (Kd.R_new' ho0 (Kd.R_lt (zR HO_6.out))) (Kd.R_lt (zR HO_224000.out))) (Kd.R_lt (zR HO236.out))) (below_size zb))
         replace HO_6:=re HO_6 (Kd.R_base ho0) hb
         replace HO_224000:=re HO_224000 (Kd.R_base ho0) hb
         replace HO236:=re HO236 (Kd.R_base ho0) hb
         replace BK220:=kb BK220 hb
         replace BK221:=kb BK221 hb
         replace BK222:=kb BK222 hb
         replace BK223:=kb BK223 hb
         replace HB:=am (below_step zb hb)
         (try clear hb)
         (try clear hb2)
         (try clear hk)
         (try clear hi)
         (try clear ho0)
         obtain⟨Ao33,co33,eo33⟩:=Kd.R_slice HO239.out
         (first | subst eo33 |(injection eo33 with f1_ f2_ f3_;have f4_:=f1_.symm;have f5_:=f3_.symm;clear f1_ f2_ f3_;subst f4_;subst f5_))
         refine hK.out _ _ ⟨(blk_cell BK220.out 0).trans rfl,(blk_cell BK223.out 0).trans rfl⟩ (fun hHeld=>?_)
         clear hK K
         refine norm_ (a':=?_) ?_ ?_
         rotate_left
         ·show Act.put _ (some 27) _ = _
          simp only [Act.put,sA,sZ,sS,i64_w,i32_w]
          rfl
         refine last_ (i:=9) (N:=none) #[tt,tt,tt,tt,tt,tt,tt,tt,tt,tt] rfl rfl (one_of HT_.out (by kernel_rfl)) (by decide) (fun K hK=>?_)
         have hs34 : w32.cell? ⟨gb223,0,none⟩ = some (.slice Ao30 x224000_1.length co30):=(blk_cell BK223.out 0).trans rfl
         have hfs34:=blk_frozen BK223.out 0
         have hns34_0:=NB220_223.out
         have hns34_1:=NB221_223.out
         have hns34_2:=NB222_223.out
         have hms34_0:=NB223_220.out
         have hms34_1:=NB223_221.out
         have hms34_2:=NB223_222.out
         refine skip_ (w1:=?_) (by rfl) rfl ?_ ?_
         rotate_left
         ·go_simp
          rfl
         refine hK.out _ _ ?_
         clear hK K
         refine done_ (done_of HT_.out (by kernel_rfl)) ?_
         have hnb35:=NB223_220.out
         have hnc35:=NB220_223.out
         have hnb36:=NB223_221.out
         have hnc36:=NB221_223.out
         have hnb37:=NB223_222.out
         have hnc37:=NB222_223.out
         have hcz38_0 : w32.cell? ⟨gb223,0,none⟩ = some (.slice Ao30 x224000_1.length co30):=(blk_cell BK223.out 0).trans rfl
         have hfz38_0:=blk_frozen BK223.out 0
         have hnb39:=NB221_220.out
         have hnc39:=NB220_221.out
         have hnb40:=NB221_222.out
         have hnc40:=NB222_221.out
         have hcz41_0 : w32.cell? ⟨gb221,0,none⟩ = some (.slice A1_0 l1_0.length c1_0):=(blk_cell BK221.out 0).trans rfl
         have hfz41_0:=blk_frozen BK221.out 0
         try go_wp2_with (first |((with_reducible refine gate_callee (f:=48) rfl ?_);refine goesL_ (some 32) rfl rfl Tryd.func48 (by kernel_rfl) rfl #[.agg #[.slice Ao33 t237.length co33],.agg #[.slice A1_0 l1_0.length c1_0]] rfl zl ?_;(with_reducible refine(nat_number_digit.calls k1 _ _ t237 _ _ l1_0 t240 _ ?side1 ?side2 ?side3 ?side4 A20.out).mono ?_);(case side1=>refine(Kd.R_reads' (e:=55) (base:=w.heap.size) (ok:=fun k_=>(((True∧some k_≠(.slice Ao15 x6_1.length co15 : Value).ownBlock)∧some k_≠(.slice Ao30 x224000_1.length co30 : Value).ownBlock)∧some k_≠(.slice Ao31 y234.length co31 : Value).ownBlock)) (n:=t237.length) (c:=co33) ?_).2.2;exact(by refine zR ?_;exact(Kd.R_mono (Kd.R_far (p:=⟨gb223,0,none⟩) (Kd.R_types HO239.out BK223.out (by decide)) (fun _ hk=>hk.2) (.slice Ao33 t237.length co33)) (fun _ h_=>h_.1))));(case side2=>exact(Kd.R_reads' HO239.out).2.1);(case side3=>exact Kd.C_below HR1_0.out zb);(case side4=>exact HC1_0.out);rintro e w42 ⟨rfl,hb⟩;refine⟨_,rfl,?_⟩;replace HO_6:=am (Kd.R_below (by refine zR ?_;exact(Kd.R_mono (Kd.R_far (p:=⟨gb223,0,none⟩) (Kd.R_types HO_6.out BK223.out (by decide)) (fun _ hk=>hk.2) (.slice Ao33 t237.length co33)) (fun _ h_=>h_.1))) hb);replace HO_224000:=am (Kd.R_below (by refine zR ?_;exact(Kd.R_mono (Kd.R_far (p:=⟨gb223,0,none⟩) (Kd.R_types HO_224000.out BK223.out (by decide)) (fun _ hk=>hk.2) (.slice Ao33 t237.length co33)) (fun _ h_=>h_.1))) hb);replace HO236:=am (Kd.R_below (by refine zR ?_;exact(Kd.R_mono (Kd.R_far (p:=⟨gb223,0,none⟩) (Kd.R_types HO236.out BK223.out (by decide)) (fun _ hk=>hk.2) (.slice Ao33 t237.length co33)) (fun _ h_=>h_.1))) hb);replace HO239:=am (Kd.R_below (by refine zR ?_;exact(Kd.R_mono (Kd.R_far (p:=⟨gb223,0,none⟩) (Kd.R_types HO239.out BK223.out (by decide)) (fun _ hk=>hk.2) (.slice Ao33 t237.length co33)) (fun _ h_=>h_.1))) hb);replace BK220:=am (blk_below (g:=gb220) (o:=.cells #[.slice A0_0 l0_0.length c0_0] 47 (0,0)) (by refine zk ?_;refine blk_far ?_ NB220_223.out _;refine zk ?_;exact BK220.out) hb);replace BK221:=am (blk_below (g:=gb221) (o:=.cells #[.slice A1_0 l1_0.length c1_0] 47 (0,0)) (by refine zk ?_;refine blk_far ?_ NB221_223.out _;refine zk ?_;exact BK221.out) hb);replace BK222:=am (blk_below (g:=gb222) (o:=.cells #[.slice none 0 0] 47 (0,0)) (by refine zk ?_;refine blk_far ?_ NB222_223.out _;refine zk ?_;exact BK222.out) hb);replace BK223:=am (blk_below (g:=gb223) (o:=.cells #[.slice Ao33 t237.length co33] 47 (0,0)) (by refine zk ?_;refine blk_put (cs:=#[.slice Ao30 x224000_1.length co30]) ?_ 0 _ rfl;refine zk ?_;exact BK223.out) hb);replace HB:=am (below_step zb hb);(try clear hb);have p23 : 0≤(x7_1 : Int):=of_decide_eq_true za;have q23 : (x7_1 : Int) < ((x6_1.length : Int) : Int):=of_decide_eq_true za;obtain⟨go23,co23,eo23,gb23,gl23,cl23,HG23⟩:=Kd.R_form HO_6.out (by omega);(first | cases eo23 |(injection eo23 with ea_ en_ ec_;(first | subst ea_ |(injection ea_ with ea_;subst ea_));subst ec_;clear en_));have GB23:=am gb23;have GG23:=am HG23;clear gb23 gl23 HG23;obtain⟨hx23_0,hf23_0⟩:=Kd.R_celln 0 HO_6.out (x7_1 : Int) p23 q23;replace p23:=eq_true p23;replace q23:=eq_true q23;have n_:=am (Kd.R_mono (ok':=(fun k_=>some k_≠(.slice Ao30 x224000_1.length co30 : Value).ownBlock∧some k_≠(.slice Ao31 y234.length co31 : Value).ownBlock∧some k_≠(.slice Ao33 t237.length co33 : Value).ownBlock)) HO_6.out (fun k_ hk=>⟨hk.1.1,⟨hk.1.2,hk.2⟩⟩));clear HO_6;have HO_6:=n_;clear n_;obtain⟨hy43_,hz43_⟩:=Kd.R_celln 0 HO_6.out (x7_1 : Int) (of_decide_eq_true za) (of_decide_eq_true za);have HP43:=Kd.R_putg HO_6.out (x7_1 : Int) t240) |((with_reducible refine gate_store (t:=55) (p:=33) rfl ?_);refine store_event (t:=55) (p:=33) (v:=?vo_w44) (w1:=(w42.setCell ⟨go23,(x7_1 : Int).toNat,none⟩ (.int .u64 t240))) ?hg ?ho ?hn ?hr ?_;(case ho=>rfl);(case hg=>rfl);(case hn=>rfl);(case hr=>exact zh);intro w44 hw;have hg : w42.grownBy w44 (some go23):=(by rw [hw];exact HP43.2);have hp_ : Kd.R (Kd.int .u64) 55 w44 w.heap.size (fun k_=>some k_≠(.slice Ao30 x224000_1.length co30 : Value).ownBlock∧some k_≠(.slice Ao31 y234.length co31 : Value).ownBlock∧some k_≠(.slice Ao33 t237.length co33 : Value).ownBlock) (.slice (some ⟨go23,0,none⟩) x6_1.length co15) y241:=(by rw [hw,Ny241.out];exact HP43.1);clear HP43;replace HO_224000:=am (Kd.R_after (v:=(.slice (some ⟨go23,0,none⟩) x6_1.length co15)) (v1:=(.slice (some ⟨go23,0,none⟩) x6_1.length co15)) (ok:=(fun k_=>some k_≠(.slice Ao31 y234.length co31 : Value).ownBlock∧some k_≠(.slice Ao33 t237.length co33 : Value).ownBlock)) (by refine zR ?_;exact Kd.R_mono HO_224000.out (fun _ hk=>⟨⟨hk.1.2,hk.2⟩,hk.1.1⟩)) hg (.inl rfl));replace BK220:=am (blk_grown (zk BK220.out) hg (Kd.R_ne HO_6.out BK220.out (by decide)));replace BK221:=am (blk_grown (zk BK221.out) hg (Kd.R_ne HO_6.out BK221.out (by decide)));replace BK222:=am (blk_grown (zk BK222.out) hg (Kd.R_ne HO_6.out BK222.out (by decide)));replace BK223:=am (blk_grown (zk BK223.out) hg (Kd.R_ne HO_6.out BK223.out (by decide)));replace HO_6:=am (hp_);replace HO236:=am (Kd.R_after (v:=(.slice (some ⟨go23,0,none⟩) x6_1.length co15)) (v1:=(.slice (some ⟨go23,0,none⟩) x6_1.length co15)) (ok:=(fun k_=>some k_≠(.slice Ao30 x224000_1.length co30 : Value).ownBlock∧some k_≠(.slice Ao33 t237.length co33 : Value).ownBlock)) (by refine zR ?_;exact Kd.R_mono HO236.out (fun _ hk=>⟨⟨hk.1.2,hk.2⟩,hk.1.1⟩)) hg (.inl rfl));replace HO239:=am (Kd.R_after (v:=(.slice (some ⟨go23,0,none⟩) x6_1.length co15)) (v1:=(.slice (some ⟨go23,0,none⟩) x6_1.length co15)) (ok:=(fun k_=>some k_≠(.slice Ao30 x224000_1.length co30 : Value).ownBlock∧some k_≠(.slice Ao31 y234.length co31 : Value).ownBlock)) (by refine zR ?_;exact Kd.R_mono HO239.out (fun _ hk=>⟨⟨hk.1.2,hk.2⟩,hk.1.1.2⟩)) hg (.inl rfl));replace HB:=am ((by rw [hw];exact below_set (HB.out) GB23.out : Below w.heap.size w w44));clear hg hw hp_))
         replace HO_6:=am (Kd.R_drew HO_6.out)
         replace HO_224000:=am (Kd.R_drew HO_224000.out)
         replace HO236:=am (Kd.R_drew HO236.out)
         replace HO239:=am (Kd.R_drew HO239.out)
         replace BK220:=am (blk_drew BK220.out)
         replace BK221:=am (blk_drew BK221.out)
         replace BK222:=am (blk_drew BK222.out)
         replace BK223:=am (blk_drew BK223.out)
         replace HB:=am (below_drew1 HB.out)
         have p242 : 0≤(x7_1 : Int):=of_decide_eq_true za
         have q242 : x7_1 < (y241.length : Int):=(by have h_ : (x7_1 : Int) < ((x6_1.length : Int) : Int):=of_decide_eq_true za;first |(have e_:=(Kd.R_reads' HO_6.out).1;omega) | simpa only [Ny241.out,List.length_set] using h_)
         have ql242 : ((x7_1 : Int) < ((x6_1.length : Int) : Int)) = True:=eq_true (of_decide_eq_true za)
         obtain⟨ad242,e242,hx242_0⟩:=Kd.at_int (Kd.R_reads' HO_6.out).2.2 x7_1 p242 q242
         obtain rfl : (⟨go23,0,none⟩ : Addr) = ad242:=(by injection e242)
         (first | simp only [add_plain] at hx242_0 | simp only [add_at] at hx242_0 | simp only [Addr.add,Nat.zero_add] at hx242_0 | skip)
         replace p242:=eq_true p242
         replace q242:=eq_true q242
         refine start_ (n:=9) (S:=fun w'=>w'.cell? ⟨gb223,0,none⟩ = some (.slice Ao33 t237.length co33)∧w'.cell? ⟨gb221,0,none⟩ = some (.slice A1_0 l1_0.length c1_0)∧w'.cell? ⟨go23,(x7_1).toNat,none⟩ = some (.int .u64 (rd y241 x7_1))) (ds:=[8]) #[ff,ff,ff,ff,ff,ff,ff,ff,ff] (by kernel_rfl) rfl rfl ⟨(blk_cell BK223.out 0).trans rfl,(blk_cell BK221.out 0).trans rfl,hx242_0⟩ (fun hHeld=>?_);refine with_tabW nat_number_parted.tab7 nat_number_parted.bits7 (fun HT_ HW_=>?_)
         generalize w44.drew = w45 at HO_6 HO_224000 HO236 HO239 BK220 BK221 BK222 BK223 HB hx242_0 hHeld ⊢
         refine pu (i:=2) (N:=some 36) #[ff,ff,tt,ff,ff,ff,ff,ff,ff] (any_of HT_.out (by kernel_rfl)) ?_
         refine pu (i:=3) (N:=some 37) #[ff,ff,tt,tt,ff,ff,ff,ff,ff] (any_of HT_.out (by kernel_rfl)) ?_
         refine pu (i:=4) (N:=some 38) #[ff,ff,tt,tt,tt,ff,ff,ff,ff] (any_of HT_.out (by kernel_rfl)) ?_
         refine take_ (i:=0) (N:=some 34) (v:=?_) (a':=?_) #[tt,ff,tt,tt,tt,ff,ff,ff,ff] rfl rfl (take_ofW HT_.out HW_.out (by kernel_rfl)) (fun _ _ _ h=>h) (Or.inl ⟨by rfl,?_⟩) hHeld ?_ ?_
         rotate_left
         ·rintro w' ⟨s0,s1,s2⟩
          go_simp
          with_reducible rfl
         rotate_left
         ·simp only [Act.put,sA,sZ,sS,i64_w,i32_w]
          rfl
         refine take_ (i:=1) (N:=some 35) (v:=?_) (a':=?_) #[tt,tt,tt,tt,tt,ff,ff,ff,ff] rfl rfl (take_ofW HT_.out HW_.out (by kernel_rfl)) (fun _ _ _ h=>h) (Or.inl ⟨by rfl,?_⟩) hHeld ?_ ?_
         rotate_left
         ·rintro w' ⟨s0,s1,s2⟩
          go_simp
          with_reducible rfl
         rotate_left
         ·simp only [Act.put,sA,sZ,sS,i64_w,i32_w]
          rfl
         refine take_ (i:=5) (N:=some 39) (v:=?_) (a':=?_) #[tt,tt,tt,tt,tt,tt,ff,ff,ff] rfl rfl (take_ofW HT_.out HW_.out (by kernel_rfl)) (fun _ _ _ h=>h) (Or.inl ⟨by rfl,?_⟩) hHeld ?_ ?_
         rotate_left
         ·rintro w' ⟨s0,s1,s2⟩
          go_simp
          with_reducible rfl
         rotate_left
         ·simp only [Act.put,sA,sZ,sS,i64_w,i32_w]
          rfl
         refine one_ (i:=6) (N:=some 40) #[tt,tt,tt,tt,tt,tt,tt,ff,ff] rfl rfl (one_of HT_.out (by kernel_rfl)) (by decide) (fun K hK=>?_)
         refine goes_ Tryd.func49 (by kernel_rfl) rfl #[.agg #[.slice A1_0 l1_0.length c1_0],.int .u64 (rd y241 x7_1)] (by rfl) rfl rfl zl ?_
         with_reducible refine(nat_number_scaled.calls k1 _ _ l1_0 (rd y241 x7_1) t243 _ ?side1 ?side2 A24.out).mono ?_
         (case side1=>repeat (first | exact(Kd.C_below HR1_0.out HB.out) |(with_reducible refine Kd.C_alloc ?_ _) |(with_reducible refine Kd.C_drewN ?_ _) |(with_reducible refine Kd.C_drew ?_)))
         (case side2=>exact HC1_0.out)
         rintro e w46 ⟨v244,rfl,ho0,hb⟩
         have HS2_:=(hb.cell (World.block_lt_of_cell? _ _ (hHeld.2.2))).trans (hHeld.2.2)
         refine⟨_,rfl,?_⟩
         have HO245:=am (Kd.R_lower (Kd.R_new' (Kd.R_new' (Kd.R_new' (Kd.R_new' ho0 (Kd.R_lt (zR HO_6.out))) (Kd.R_lt (zR HO_224000.out))) (Kd.R_lt (zR HO236.out))) (Kd.R_lt (zR HO239.out))) (below_size zb))
         replace HO_6:=re HO_6 (Kd.R_base ho0) hb
         replace HO_224000:=re HO_224000 (Kd.R_base ho0) hb
         replace HO236:=re HO236 (Kd.R_base ho0) hb
         replace HO239:=re HO239 (Kd.R_base ho0) hb
         replace BK220:=kb BK220 hb
         replace BK221:=kb BK221 hb
         replace BK222:=kb BK222 hb
         replace BK223:=kb BK223 hb
         replace HB:=am (below_step zb hb)
         (try clear hb)
         (try clear hb2)
         (try clear hk)
         (try clear hi)
         (try clear ho0)
         obtain⟨Ao47,co47,eo47⟩:=Kd.R_slice HO245.out
         (first | subst eo47 |(injection eo47 with f1_ f2_ f3_;have f4_:=f1_.symm;have f5_:=f3_.symm;clear f1_ f2_ f3_;subst f4_;subst f5_))
         refine hK.out _ _ ⟨(blk_cell BK223.out 0).trans rfl,(blk_cell BK221.out 0).trans rfl,HS2_⟩ (fun hHeld=>?_)
         clear hK K
         refine norm_ (a':=?_) ?_ ?_
         rotate_left
         ·show Act.put _ (some 40) _ = _
          simp only [Act.put,sA,sZ,sS,i64_w,i32_w]
          rfl
         refine one_ (i:=7) (N:=some 41) #[tt,tt,tt,tt,tt,tt,tt,tt,ff] rfl rfl (one_of HT_.out (by kernel_rfl)) (by decide) (fun K hK=>?_)
         refine goes_ Tryd.func33 (by kernel_rfl) rfl #[.agg #[.slice Ao33 t237.length co33],.agg #[.slice Ao47 t243.length co47]] (by rfl) rfl rfl zl ?_
         with_reducible refine(nat_number_less.calls k1 _ _ t237 _ _ t243 t246 _ ?side1 ?side2 ?side3 ?side4 A25.out).mono ?_
         (case side1=>exact zC (Kd.R_reads' HO239.out).2.2)
         (case side2=>exact(Kd.R_reads' HO239.out).2.1)
         (case side3=>exact zC (Kd.R_reads' HO245.out).2.2)
         (case side4=>exact(Kd.R_reads' HO245.out).2.1)
         rintro e w48 ⟨v247,rfl,ho0,hb⟩
         have HS2_:=(hb.cell (World.block_lt_of_cell? _ _ (hHeld.2.2))).trans (hHeld.2.2)
         refine⟨_,rfl,?_⟩
         have HO248:=am (Kd.R_lower (Kd.R_new' (Kd.R_new' (Kd.R_new' (Kd.R_new' (Kd.R_new' ho0 (Kd.R_lt (zR HO_6.out))) (Kd.R_lt (zR HO_224000.out))) (Kd.R_lt (zR HO236.out))) (Kd.R_lt (zR HO239.out))) (Kd.R_lt (zR HO245.out))) (below_size zb))
         replace HO_6:=re HO_6 (Kd.R_base ho0) hb
         replace HO_224000:=re HO_224000 (Kd.R_base ho0) hb
         replace HO236:=re HO236 (Kd.R_base ho0) hb
         replace HO239:=re HO239 (Kd.R_base ho0) hb
         replace HO245:=re HO245 (Kd.R_base ho0) hb
         replace BK220:=kb BK220 hb
         replace BK221:=kb BK221 hb
         replace BK222:=kb BK222 hb
         replace BK223:=kb BK223 hb
         replace HB:=am (below_step zb hb)
         (try clear hb)
         (try clear hb2)
         (try clear hk)
         (try clear hi)
         (try clear ho0)
         obtain⟨Ao49,co49,eo49⟩:=Kd.R_slice HO248.out
         (first | subst eo49 |(injection eo49 with f1_ f2_ f3_;have f4_:=f1_.symm;have f5_:=f3_.symm;clear f1_ f2_ f3_;subst f4_;subst f5_))
         refine hK.out _ _ ⟨(blk_cell BK223.out 0).trans rfl,(blk_cell BK221.out 0).trans rfl,HS2_⟩ (fun hHeld=>?_)
         clear hK K
         refine norm_ (a':=?_) ?_ ?_
         rotate_left
         ·show Act.put _ (some 41) _ = _
          simp only [Act.put,sA,sZ,sS,i64_w,i32_w]
          rfl
         refine last_ (i:=8) (N:=none) #[tt,tt,tt,tt,tt,tt,tt,tt,tt] rfl rfl (one_of HT_.out (by kernel_rfl)) (by decide) (fun K hK=>?_)
         have hs50 : w48.cell? ⟨gb223,0,none⟩ = some (.slice Ao33 t237.length co33):=(blk_cell BK223.out 0).trans rfl
         have hfs50:=blk_frozen BK223.out 0
         have hns50_0:=NB220_223.out
         have hns50_1:=NB221_223.out
         have hns50_2:=NB222_223.out
         have hms50_0:=NB223_220.out
         have hms50_1:=NB223_221.out
         have hms50_2:=NB223_222.out
         refine skip_ (w1:=?_) (by rfl) rfl ?_ ?_
         rotate_left
         ·go_simp
          rfl
         refine hK.out _ _ ?_
         clear hK K
         refine done_ (done_of HT_.out (by kernel_rfl)) ?_
         try go_wp2
         (try simp only [← hl6_1])
         go_roundg k1
         case measure=>have:=HK1.out;omega
         case rel=>exact⟨(y241),(wrap64 (x7_1 - 1)),(t246),(.slice Ao49 t246.length co49),ze,H',⟨by have:=HK1.out;omega⟩,⟨by(try simp only [hl6_1]);refine zR ?_;exact Kd.R_mono (Kd.R_far (p:=⟨gb223,0,none⟩) (Kd.R_types HO_6.out BK223.out (by decide)) (fun _ hk=>hk.2) (.slice Ao49 t246.length co49)) (fun _ hk=>hk.1.2)⟩,⟨by(try simp only [hl6_1]);refine zR ?_;exact Kd.R_mono (Kd.R_far (p:=⟨gb223,0,none⟩) (Kd.R_types HO248.out BK223.out (by decide)) (fun _ hk=>hk.2) (.slice Ao49 t246.length co49)) (fun _ hk=>hk.1.1.1.1.1.2)⟩,⟨by(try simp only [hl6_1]);refine zk ?_;refine blk_far ?_ NB220_223.out _;refine zk ?_;exact BK220.out⟩,⟨by(try simp only [hl6_1]);refine zk ?_;refine blk_far ?_ NB221_223.out _;refine zk ?_;exact BK221.out⟩,⟨by(try simp only [hl6_1]);refine zk ?_;refine blk_far ?_ NB222_223.out _;refine zk ?_;exact BK222.out⟩,⟨by(try simp only [hl6_1]);refine zk ?_;refine blk_put (cs:=#[.slice Ao33 t237.length co33]) ?_ 0 _ rfl;refine zk ?_;exact BK223.out⟩,⟨zb⟩⟩
        ·rw [if_neg c22] at H
         exact absurd H (by simp)
       ·rw [if_neg c21] at H
        exact absurd H (by simp)
      ·rw [if_neg c18] at H
       exact absurd H (by simp)
     ·rw [if_neg c16] at H
      have c16b0 : decide (0≤x7_1) = false:=decide_eq_false c16
      clear c16
      replace H:=Option.bind_eq_some_iff.mp H
      obtain⟨t227,A510,H⟩:=H
      try dsimp only at H
      have A51:=am A510
      clear A510
      simp only [Option.some.injEq,Prod.mk.injEq] at H
      obtain⟨rfl,rfl⟩:=H
      try go_wp2
      replace HO_6:=am (Kd.R_drew HO_6.out)
      replace HO_224000:=am (Kd.R_drew HO_224000.out)
      replace BK220:=am (blk_drew BK220.out)
      replace BK221:=am (blk_drew BK221.out)
      replace BK222:=am (blk_drew BK222.out)
      replace BK223:=am (blk_drew BK223.out)
      replace HB:=am (below_drew1 HB.out)
      refine start_ (n:=5) (S:=fun w'=>w'.cell? ⟨gb223,0,none⟩ = some (u224000)) (ds:=[4]) #[ff,ff,ff,ff,ff] (by kernel_rfl) rfl rfl ((blk_cell BK223.out 0).trans rfl) (fun hHeld=>?_)
      generalize wr.drew = w52 at HO_6 HO_224000 BK220 BK221 BK222 BK223 HB hHeld ⊢
      refine pu (i:=0) (N:=some 42) #[tt,ff,ff,ff,ff] (by kernel_rfl) ?_
      refine take_ (i:=2) (N:=some 44) (v:=?_) (a':=?_) #[tt,ff,tt,ff,ff] rfl rfl (by kernel_rfl) (fun _ _ _ h=>h) (Or.inl ⟨by rfl,?_⟩) hHeld ?_ ?_
      rotate_left
      ·intro w' s0
       go_simp
       with_reducible rfl
      rotate_left
      ·simp only [Act.put,sA,sZ,sS,i64_w,i32_w]
       rfl
      refine one_ (i:=1) (N:=some 43) #[tt,tt,tt,ff,ff] rfl rfl (by kernel_rfl) (by decide) (fun K hK=>?_)
      refine goes_ Tryd.func38 (by kernel_rfl) rfl #[.slice Ao15 x6_1.length co15] (by rfl) rfl rfl zl ?_
      with_reducible refine(nat_carried.calls k1 _ _ x6_1 t227 _ ?side1 ?side2 A51.out).mono ?_
      (case side1=>exact zC (Kd.R_reads' HO_6.out).2.2)
      (case side2=>exact(Kd.R_reads' HO_6.out).2.1)
      rintro e w53 ⟨v228,rfl,ho0,hb⟩
      refine⟨_,rfl,?_⟩
      have HO229:=am (Kd.R_lower (Kd.R_new' (Kd.R_new' ho0 (Kd.R_lt (zR HO_6.out))) (Kd.R_lt (zR HO_224000.out))) (below_size zb))
      replace HO_6:=re HO_6 (Kd.R_base ho0) hb
      replace HO_224000:=re HO_224000 (Kd.R_base ho0) hb
      replace BK220:=kb BK220 hb
      replace BK221:=kb BK221 hb
      replace BK222:=kb BK222 hb
      replace BK223:=kb BK223 hb
      replace HB:=am (below_step zb hb)
      (try clear hb)
      (try clear hb2)
      (try clear hk)
      (try clear hi)
      (try clear ho0)
      obtain⟨Ao54,co54,eo54⟩:=Kd.R_slice HO229.out
      (first | subst eo54 |(injection eo54 with f1_ f2_ f3_;have f4_:=f1_.symm;have f5_:=f3_.symm;clear f1_ f2_ f3_;subst f4_;subst f5_))
      obtain⟨Ao56,co56,eo56⟩:=Kd.R_slice HO_224000.out
      (first | subst eo56 |(injection eo56 with f1_ f2_ f3_;have f4_:=f1_.symm;have f5_:=f3_.symm;clear f1_ f2_ f3_;subst f4_;subst f5_))
      refine hK.out _ _ ((blk_cell BK223.out 0).trans rfl) (fun hHeld=>?_)
      clear hK K
      refine norm_ (a':=?_) ?_ ?_
      rotate_left
      ·show Act.put _ (some 43) _ = _
       simp only [Act.put,sA,sZ,sS,i64_w,i32_w]
       rfl
      refine one_ (i:=3) (N:=none) #[tt,tt,tt,tt,ff] rfl rfl (by kernel_rfl) (by decide) (fun K hK=>?_)
      have hs55 : w53.cell? ⟨gb222,0,none⟩ = some (.slice none 0 0):=(blk_cell BK222.out 0).trans rfl
      have hfs55:=blk_frozen BK222.out 0
      have hns55_0:=NB220_222.out
      have hns55_1:=NB221_222.out
      have hns55_3:=NB223_222.out
      have hms55_0:=NB222_220.out
      have hms55_1:=NB222_221.out
      have hms55_3:=NB222_223.out
      refine skip_ (w1:=?_) (by rfl) rfl ?_ ?_
      rotate_left
      ·go_simp
       rfl
      refine hK.out _ _ (((cell_far (p:=⟨gb222,_,none⟩) NB223_222.out _).trans (hHeld))) (fun hHeld=>?_)
      clear hK K
      refine last_ (i:=4) (N:=none) #[tt,tt,tt,tt,tt] rfl rfl (by kernel_rfl) (by decide) (fun K hK=>?_)
      have hs57 : w53.cell? ⟨gb223,0,none⟩ = some (.slice Ao56 x224000_1.length co56):=(blk_cell BK223.out 0).trans rfl
      have hfs57:=blk_frozen BK223.out 0
      have hns57_0:=NB220_223.out
      have hns57_1:=NB221_223.out
      have hns57_2:=NB222_223.out
      have hms57_0:=NB223_220.out
      have hms57_1:=NB223_221.out
      have hms57_2:=NB223_222.out
      refine skip_ (w1:=?_) (by rfl) rfl ?_ ?_
      rotate_left
      ·go_simp
       rfl
      refine hK.out _ _ ?_
      clear hK K
      refine done_ (by kernel_rfl) ?_
      try go_wp2
      refine bodyPost_ret (results_cc rfl _ _ gb222 gb223 47 47 #[.slice Ao54 t227.length co54] #[.slice Ao56 x224000_1.length co56] (0,0) (0,0) _ _ rfl (by refine zk ?_;refine blk_far ?_ NB222_223.out _;refine zk ?_;refine blk_put (cs:=#[.slice none 0 0]) ?_ 0 _ rfl;refine zk ?_;exact BK222.out) Tryd.underlying47 rfl (by kernel_rfl) rfl (by refine zk ?_;refine blk_put (cs:=#[.slice Ao56 x224000_1.length co56]) ?_ 0 _ rfl;refine zk ?_;refine blk_far ?_ NB223_222.out _;refine zk ?_;exact BK223.out) Tryd.underlying47 rfl (by kernel_rfl)) rfl ?_
      exact⟨_,_,zf,by refine zR ?_;exact Kd.R_mono (Kd.R_far (p:=⟨gb223,0,none⟩) (Kd.R_far (p:=⟨gb222,0,none⟩) (Kd.R_types (Kd.R_types HO229.out BK222.out (by decide)) BK223.out (by decide)) (fun _ hk=>hk.1.2) (.slice Ao54 t227.length co54)) (fun _ hk=>hk.2) (.slice Ao56 x224000_1.length co56)) (fun _ hk=>hk.1.1.2),by refine zR ?_;exact Kd.R_mono (Kd.R_far (p:=⟨gb223,0,none⟩) (Kd.R_far (p:=⟨gb222,0,none⟩) (Kd.R_types (Kd.R_types HO_224000.out BK222.out (by decide)) BK223.out (by decide)) (fun _ hk=>hk.1.2) (.slice Ao54 t227.length co54)) (fun _ hk=>hk.2) (.slice Ao56 x224000_1.length co56)) (fun _ hk=>hk.1.1.2),zb⟩
  ·rw [if_neg c4] at H
   exact absurd H (by simp)
 ·rw [if_neg c3] at H
  exact absurd H (by simp)

end Go.Proofs.YtnkkndninilciaaDoor.X

-- Printed by xprint.py, this session's own program (wip/tool), out of the translation. Lean checks it.
import Derived.Test.YtcbohpmdeboeoaaGreatDoorRRZ
import Derived.Test.YtcbohpmdeboeoaaGreatDoorRRX0
import Derived.Test.YtcbohpmdeboeoaaGreatDoorRRX1
import Derived.Test.YtcbohpmdeboeoaaGreatDoorRRX4
import Derived.Test.YtcbohpmdeboeoaaGreatDoorRRX5
namespace Go.Proofs.YtcbohpmdeboeoaaGreatDoorRR.X
open Go.Proofs.YtcbohpmdeboeoaaGreatDoorRR.Z
open Go.RowKit Go.Proofs.YtcbohpmdeboeoaaGreatDoorRRW.PrintWords Go.Proofs.YtcbohpmdeboeoaaGreatDoorRRW.PrintLast Go.Proofs.YtcbohpmdeboeoaaGreatDoorRRW.PrintMore
open List renaming setIfInBounds_toArray → sA, set_cons_zero → sZ, set_cons_succ → sS
open Aside0 renaming mk → am
open Bool renaming true → tt, false → ff
set_option maxHeartbeats 8000000
set_option maxRecDepth 100000
attribute [local go_sem] max2_int min2_int max_two min_two max_three min_three max_four min_four   -- for this text's walks alone
set_option linter.unusedVariables false
set_option linter.unusedSimpArgs false

/-! ### nat_number_parted: function 73 -/
def nat_number_parted.l0 : Nat→List Int→Int→List Int→List Int→List Int→Option (List Int×List Int)
 | 0,_,_,_,_,_=>none
 | k + 1,x6,x7,x275000,x276000,x278000=>if x7≥0 then((nat_digits_at.f x275000 x7).bind fun t284=>((some (([t284] : List Int) : List Int)).bind fun y285=>(if y285.length + x278000.length < 17592186044416 then((nat_carried.f k (y285 ++ x278000)).bind fun t291=>((nat_number_digit.f k t291 x276000).bind fun t294=>(if 0≤x7 then(if x7 < (x6.length : Int) then((some (x6.set (x7 : Int).toNat t294 : List Int)).bind fun y295=>((nat_number_scaled.f k x276000 (rd y295 x7)).bind fun t297=>((nat_number_less.f k t291 t297).bind fun t300=>(nat_number_parted.l0 k y295 (wrap64 (x7 - 1)) x275000 x276000 t300)))) else(none)) else(none)))) else(none)))) else((nat_carried.f k x6).bind fun t281=>(some (t281,x278000)))
def nat_number_parted.f (k : Nat) (l0_0 : List Int) (l1_0 : List Int) : Option (List Int×List Int):=if 0≤(l0_0.length : Int) then(if ((l0_0.length : Int) : Int).toNat≤35184372088832 then((some (List.replicate ((l0_0.length : Int) : Int).toNat 0 : List Int)).bind fun y278=>(nat_number_parted.l0 k y278 (wrap64 ((y278.length : Int) - 1)) l0_0 l1_0 ([] : List Int))) else(none)) else(none)
def nat_number_parted.T5 : Bool×List (List Nat×List Nat):=(true,[([],[]),([0],[0]),([],[]),([1,2],[1,2]),([3],[3]),([],[]),([5],[5]),([4,6,3],[4,6]),([7,7],[7]),([8,8,0,1,2,3,4,5,6,7,8],[8])])
def nat_number_parted.B5 : List Nat:=[0,1,0,7,15,0,32,127,255,511]
theorem nat_number_parted.tab5 : rtab .any (opsOf Tryz.f73 5) = nat_number_parted.T5:=by kernel_rfl
theorem nat_number_parted.bits5 : waitsOk nat_number_parted.T5.2 nat_number_parted.B5 = true:=by kernel_rfl
def nat_number_parted.T7 : Bool×List (List Nat×List Nat):=(true,[([],[]),([],[]),([],[]),([],[]),([2,3],[2,3]),([4],[4]),([1,5],[1,5]),([0,6,6],[0,6]),([7,7,0,1,2,3,4,5,6,7],[7])])
def nat_number_parted.B7 : List Nat:=[0,0,0,0,12,28,62,127,255]
theorem nat_number_parted.tab7 : rtab .any (opsOf Tryz.f73 7) = nat_number_parted.T7:=by kernel_rfl
theorem nat_number_parted.bits7 : waitsOk nat_number_parted.T7.2 nat_number_parted.B7 = true:=by kernel_rfl
theorem nat_number_parted.calls (k : Nat) (A0_0 : Option Addr) (c0_0 : Nat) (l0_0 : List Int) (A1_0 : Option Addr) (c1_0 : Nat) (l1_0 : List Int) (r1 : List Int) (r2 : List Int) (w : World) (hr0_0 : Kd.C (Kd.int .u64) w A0_0 l0_0.length l0_0) (hc0_0 : l0_0.length≤c0_0) (hr1_0 : Kd.C (Kd.int .u64) w A1_0 l1_0.length l1_0) (hc1_0 : l1_0.length≤c1_0) (h : nat_number_parted.f k l0_0 l1_0 = some (r1,r2)) :
  Calls Tryz.prog 73 #[.agg #[.slice A0_0 l0_0.length c0_0],.agg #[.slice A1_0 l1_0.length c1_0]] w fun e w'=>∃ v0_ v1_ : Value,e = .returned (.tuple #[.agg #[v0_],.agg #[v1_]])∧Kd.R (Kd.int .u64) 59 w' w.heap.size (fun k_=>some k_≠(v1_ : Value).ownBlock) v0_ r1∧Kd.R (Kd.int .u64) 59 w' w.heap.size (fun k_=>some k_≠(v0_ : Value).ownBlock) v1_ r2∧Below w.heap.size w w':=by
 have hu83:=Tryz.underlying83
 have HR0_0:=am hr0_0
 have HC0_0:=am hc0_0
 clear hr0_0 hc0_0
 have HR1_0:=am hr1_0
 have HC1_0:=am hc1_0
 clear hr1_0 hc1_0
 have HB:=am (Below.refl w.heap.size w)
 have H : (if 0≤(l0_0.length : Int) then(if ((l0_0.length : Int) : Int).toNat≤35184372088832 then((some (List.replicate ((l0_0.length : Int) : Int).toNat 0 : List Int)).bind fun y278=>(nat_number_parted.l0 k y278 (wrap64 ((y278.length : Int) - 1)) l0_0 l1_0 ([] : List Int))) else(none)) else(none)) = some (r1,r2):=h
 clear h
 by_cases c3 : 0≤(l0_0.length : Int)
 ·rw [if_pos c3] at H
  have c3b0:=eq_true c3
  have c3b1 : decide (0≤(l0_0.length : Int)) = true:=decide_eq_true c3
  clear c3
  by_cases c4 : ((l0_0.length : Int) : Int).toNat≤35184372088832
  ·rw [if_pos c4] at H
   have c4b0:=eq_true c4
   have c4b1 : decide (((l0_0.length : Int) : Int).toNat≤35184372088832) = true:=decide_eq_true c4
   clear c4
   obtain⟨y278,hy278⟩ : ∃ y_ : List Int,y_ = (List.replicate ((l0_0.length : Int) : Int).toNat 0):=⟨_,rfl⟩
   replace H : (nat_number_parted.l0 k y278 (wrap64 ((y278.length : Int) - 1)) l0_0 l1_0 ([] : List Int)) = some (r1,r2):=by first |(rw [hy278];with_reducible exact H) |(have H2_:=(Option.bind_some _ _).symm.trans H;rw [hy278];with_reducible exact H2_) |(have H2_:=(Option.bind_some _ _).symm.trans H;with_reducible exact H2_) | with_reducible exact H |(rw [hy278];exact H) | exact H
   have Ny278:=am hy278
   clear hy278
   have H':=am H
   clear H
   go_enter Tryz.func73,Tryz.ntmps73
   go_wp2_with (first |((with_reducible refine gate_dst (N:=2) rfl ?_);refine box_event ?hg (N:=2) ?hd (cs:=#[.slice A0_0 l0_0.length c0_0]) (t:=83) ?hr ?_;(case hd=>rfl);(case hg=>rfl);(case hr=>exact zh);intro gb274 hg w5 hbox hb;have BK274:=am (hbox);have GW274:=gw w hg;have GE274:=gw w hg;replace HB:=am (below_step zb hb);clear hb hbox hg) |((with_reducible refine gate_dst (N:=3) rfl ?_);refine box_event ?hg (N:=3) ?hd (cs:=#[.slice A1_0 l1_0.length c1_0]) (t:=83) ?hr ?_;(case hd=>rfl);(case hg=>rfl);(case hr=>exact zh);intro gb275 hg w6 hbox hb;have BK275:=am (hbox);have GW275:=gw w hg;have GE275:=gw w hg;replace HB:=am (below_step zb hb);have NB274_275:=nl BK274 hg;have NB275_274:=nr BK274 hg;replace BK274:=kb BK274 hb;clear hb hbox hg) |((with_reducible refine gate_dst (N:=4) rfl ?_);refine box_event ?hg (N:=4) ?hd (cs:=#[.slice none 0 0]) (t:=83) ?hr ?_;(case hd=>rfl);(case hg=>rfl);(case hr=>exact zh);intro gb276 hg w7 hbox hb;have BK276:=am (hbox);have GW276:=gw w hg;have GE276:=gw w hg;replace HB:=am (below_step zb hb);have NB274_276:=nl BK274 hg;have NB276_274:=nr BK274 hg;replace BK274:=kb BK274 hb;have NB275_276:=nl BK275 hg;have NB276_275:=nr BK275 hg;replace BK275:=kb BK275 hb;clear hb hbox hg) |((with_reducible refine gate_dst (N:=5) rfl ?_);refine box_event ?hg (N:=5) ?hd (cs:=#[.slice none 0 0]) (t:=83) ?hr ?_;(case hd=>rfl);(case hg=>rfl);(case hr=>exact zh);intro gb277 hg w8 hbox hb;have BK277:=am (hbox);have GW277:=gw w hg;have GE277:=gw w hg;replace HB:=am (below_step zb hb);have NB274_277:=nl BK274 hg;have NB277_274:=nr BK274 hg;replace BK274:=kb BK274 hb;have NB275_277:=nl BK275 hg;have NB277_275:=nr BK275 hg;replace BK275:=kb BK275 hb;have NB276_277:=nl BK276 hg;have NB277_276:=nr BK276 hg;replace BK276:=kb BK276 hb;clear hb hbox hg;have hnb9:=NB274_275.out;have hnc9:=NB275_274.out;have hnb10:=NB274_276.out;have hnc10:=NB276_274.out;have hnb11:=NB274_277.out;have hnc11:=NB277_274.out;have hcz12_0 : w8.cell? ⟨gb274,0,none⟩ = some (.slice A0_0 l0_0.length c0_0):=(blk_cell BK274.out 0).trans rfl;have hfz12_0:=blk_frozen BK274.out 0) |((with_reducible refine gate_dst (N:=11) rfl ?_);refine Kd.R_make (Kd.int .u64) _ 59 rfl (N:=11) rfl 77 _ _ rfl (l0_0.length : Int) rfl rfl Tryz.underlying77 (.int .u64 0) 8 info59 rfl (by decide) (by omega) 0 (ok:=fun _=>True) (okp:=fun _=>True) rfl (fun _ hk=>hk) trivial (of_decide_eq_true za) (Nat.le_trans (Nat.mul_le_mul_right _ (of_decide_eq_true za : (l0_0.length : Int).toNat≤35184372088832)) (by omega)) (Below.refl _ _) (Nat.le_refl _) ?_;intro v279 w13 ho14 hb hg_ hnew_;clear hg_ hnew_;(first | rw [← Ny278.out] at ho14 |(simp only [Int.reduceToNat] at ho14;rw [← Ny278.out] at ho14));have HO280:=am (Kd.R_lower ho14 (below_size zb));replace BK274:=kb BK274 hb;replace BK275:=kb BK275 hb;replace BK276:=kb BK276 hb;replace BK277:=kb BK277 hb;replace HB:=am (below_step zb hb);clear hb ho14;obtain⟨Ao15,co15,eo15⟩:=Kd.R_slice HO280.out;subst eo15))
   go_loopg [7] k (fun kq v7 w'=>∃ (x6_1 : List Int) (x7_1 : Int) (x278000_1 : List Int) (u278000 : Value),v7 = .int .i64 x7_1∧Aside0 (nat_number_parted.l0 kq x6_1 x7_1 l0_0 l1_0 x278000_1 = some (r1,r2))∧Aside0 (kq≤k)∧Aside0 (Kd.R (Kd.int .u64) 59 w' w.heap.size (fun k_=>some k_≠(u278000 : Value).ownBlock) (.slice Ao15 y278.length co15) x6_1)∧Aside0 (Kd.R (Kd.int .u64) 59 w' w.heap.size (fun k_=>some k_≠((.slice Ao15 y278.length co15) : Value).ownBlock) u278000 x278000_1)∧Aside0 (w'.heap[gb274]? = some (.cells #[(.slice A0_0 l0_0.length c0_0)] 83 (0,0)))∧Aside0 (w'.heap[gb275]? = some (.cells #[(.slice A1_0 l1_0.length c1_0)] 83 (0,0)))∧Aside0 (w'.heap[gb276]? = some (.cells #[(.slice none 0 0)] 83 (0,0)))∧Aside0 (w'.heap[gb277]? = some (.cells #[u278000] 83 (0,0)))∧Aside0 (Below w.heap.size w w'))
   case atStart=>exact⟨(y278),(wrap64 ((y278.length : Int) - 1)),(([] : List Int)),(.slice none 0 0),ze,H',⟨Nat.le_refl _⟩,⟨by refine zR ?_;exact Kd.R_mono HO280.out (fun _ hk=>(by simp [Value.ownBlock]))⟩,⟨by first | exact Kd.R_nil _ _ _ _ _ | exact Kd.N_nil _ _ _ _ _ | exact Kd.V_nil _ _ _ _ _ | exact Kd.Q_nil _ _ _ _ _ | exact Kd.S_nil _ _ _ _ _⟩,⟨zk BK274.out⟩,⟨zk BK275.out⟩,⟨zk BK276.out⟩,⟨zk BK277.out⟩,⟨zb⟩⟩
   case round=>
    clear H'
    try clear c1
    try clear p2
    try clear c3
    try clear c3b0
    try clear c3b1
    try clear c4
    try clear c4b0
    try clear c4b1
    try clear p6
    try clear c7
    try clear c9
    try clear c10
    try clear c11
    try clear hcz12_0
    try clear hfz12_0
    obtain⟨x6_1,x7_1,x278000_1,u278000,rfl,HA,HK1,HO_6,HO_278000,BK274,BK275,BK276,BK277,HB⟩:=hrel
    have hl6_1:=(Kd.R_reads' HO_6.out).1
    rw [hl6_1] at HO_6
    (try simp only [hl6_1])
    (try simp only [hl6_1] at BK274)
    (try simp only [hl6_1] at BK275)
    (try simp only [hl6_1] at BK276)
    (try simp only [hl6_1] at BK277)
    (try simp only [hl6_1] at HO_278000)
    cases gk with
    | zero=>exact absurd HA.out (by simp [nat_number_parted.l0])
    | succ k1=>
     have H:=HA.out
     clear HA
     simp only [nat_number_parted.l0] at H
     by_cases c16 : x7_1≥0
     ·rw [if_pos c16] at H
      have c16b0 : decide (0≤x7_1) = true:=decide_eq_true c16
      clear c16
      replace H:=Option.bind_eq_some_iff.mp H
      obtain⟨t284,A170,H⟩:=H
      try dsimp only at H
      have A17:=am A170
      clear A170
      obtain⟨y285,hy285⟩ : ∃ y_ : List Int,y_ = (([t284] : List Int)):=⟨_,rfl⟩
      replace H : (if y285.length + x278000_1.length < 17592186044416 then((nat_carried.f k1 (y285 ++ x278000_1)).bind fun t291=>((nat_number_digit.f k1 t291 l1_0).bind fun t294=>(if 0≤x7_1 then(if x7_1 < (x6_1.length : Int) then((some (x6_1.set (x7_1 : Int).toNat t294 : List Int)).bind fun y295=>((nat_number_scaled.f k1 l1_0 (rd y295 x7_1)).bind fun t297=>((nat_number_less.f k1 t291 t297).bind fun t300=>(nat_number_parted.l0 k1 y295 (wrap64 (x7_1 - 1)) l0_0 l1_0 t300)))) else(none)) else(none)))) else(none)) = some (r1,r2):=by first |(rw [hy285];with_reducible exact H) |(have H2_:=(Option.bind_some _ _).symm.trans H;rw [hy285];with_reducible exact H2_) |(have H2_:=(Option.bind_some _ _).symm.trans H;with_reducible exact H2_) | with_reducible exact H |(rw [hy285];exact H) | exact H
      have Ny285:=am hy285
      clear hy285
      by_cases c18 : y285.length + x278000_1.length < 17592186044416
      ·rw [if_pos c18] at H
       have LMc18:=am c18
       clear c18
       obtain⟨y288,hy288⟩ : ∃ y_ : List Int,y_ = (y285 ++ x278000_1):=⟨_,rfl⟩
       replace H : ((nat_carried.f k1 y288).bind fun t291=>((nat_number_digit.f k1 t291 l1_0).bind fun t294=>(if 0≤x7_1 then(if x7_1 < (x6_1.length : Int) then((some (x6_1.set (x7_1 : Int).toNat t294 : List Int)).bind fun y295=>((nat_number_scaled.f k1 l1_0 (rd y295 x7_1)).bind fun t297=>((nat_number_less.f k1 t291 t297).bind fun t300=>(nat_number_parted.l0 k1 y295 (wrap64 (x7_1 - 1)) l0_0 l1_0 t300)))) else(none)) else(none)))) = some (r1,r2):=by first |(rw [hy288];with_reducible exact H) |(have H2_:=(Option.bind_some _ _).symm.trans H;rw [hy288];with_reducible exact H2_) |(have H2_:=(Option.bind_some _ _).symm.trans H;with_reducible exact H2_) | with_reducible exact H |(rw [hy288];exact H) | exact H
       have Ny288:=am hy288
       clear hy288
       replace H:=Option.bind_eq_some_iff.mp H
       obtain⟨t291,A190,H⟩:=H
       try dsimp only at H
       have A19:=am A190
       clear A190
       replace H:=Option.bind_eq_some_iff.mp H
       obtain⟨t294,A200,H⟩:=H
       try dsimp only at H
       have A20:=am A200
       clear A200
       by_cases c21 : 0≤x7_1
       ·rw [if_pos c21] at H
        have c21b0 : decide (0≤x7_1) = true:=decide_eq_true c21
        clear c21
        by_cases c22 : x7_1 < (x6_1.length : Int)
        ·rw [if_pos c22] at H
         have c22b0 : decide (x7_1 < (x6_1.length : Int)) = true:=decide_eq_true c22
         (try simp only [hl6_1] at c22b0)
         clear c22
         obtain⟨y295,hy295⟩ : ∃ y_ : List Int,y_ = (x6_1.set (x7_1 : Int).toNat t294):=⟨_,rfl⟩
         replace H : ((nat_number_scaled.f k1 l1_0 (rd y295 x7_1)).bind fun t297=>((nat_number_less.f k1 t291 t297).bind fun t300=>(nat_number_parted.l0 k1 y295 (wrap64 (x7_1 - 1)) l0_0 l1_0 t300))) = some (r1,r2):=by first |(rw [hy295];with_reducible exact H) |(have H2_:=(Option.bind_some _ _).symm.trans H;rw [hy295];with_reducible exact H2_) |(have H2_:=(Option.bind_some _ _).symm.trans H;with_reducible exact H2_) | with_reducible exact H |(rw [hy295];exact H) | exact H
         have Ny295:=am hy295
         clear hy295
         replace H:=Option.bind_eq_some_iff.mp H
         obtain⟨t297,A240,H⟩:=H
         try dsimp only at H
         have A24:=am A240
         clear A240
         replace H:=Option.bind_eq_some_iff.mp H
         obtain⟨t300,A250,H⟩:=H
         try dsimp only at H
         have A25:=am A250
         clear A250
         have H':=am H
         clear H
         try go_wp2
         replace HO_6:=am (Kd.R_drew HO_6.out)
         replace HO_278000:=am (Kd.R_drew HO_278000.out)
         replace BK274:=am (blk_drew BK274.out)
         replace BK275:=am (blk_drew BK275.out)
         replace BK276:=am (blk_drew BK276.out)
         replace BK277:=am (blk_drew BK277.out)
         replace HB:=am (below_drew1 HB.out)
         refine start_ (n:=10) (S:=fun w'=>w'.cell? ⟨gb274,0,none⟩ = some (.slice A0_0 l0_0.length c0_0)∧w'.cell? ⟨gb277,0,none⟩ = some (u278000)) (ds:=[9]) #[ff,ff,ff,ff,ff,ff,ff,ff,ff,ff] (by kernel_rfl) rfl rfl ⟨(blk_cell BK274.out 0).trans rfl,(blk_cell BK277.out 0).trans rfl⟩ (fun hHeld=>?_);refine with_tabW nat_number_parted.tab5 nat_number_parted.bits5 (fun HT_ HW_=>?_)
         generalize wr.drew = w26 at HO_6 HO_278000 BK274 BK275 BK276 BK277 HB hHeld ⊢
         refine pu (i:=0) (N:=some 19) #[tt,ff,ff,ff,ff,ff,ff,ff,ff,ff] (any_of HT_.out (by kernel_rfl)) ?_
         refine pu (i:=2) (N:=some 21) #[tt,ff,tt,ff,ff,ff,ff,ff,ff,ff] (any_of HT_.out (by kernel_rfl)) ?_
         refine pu (i:=5) (N:=some 24) #[tt,ff,tt,ff,ff,tt,ff,ff,ff,ff] (any_of HT_.out (by kernel_rfl)) ?_
         refine take_ (i:=1) (N:=some 20) (v:=?_) (a':=?_) #[tt,tt,tt,ff,ff,tt,ff,ff,ff,ff] rfl rfl (take_ofW HT_.out HW_.out (by kernel_rfl)) (fun _ _ _ h=>h) (Or.inl ⟨by rfl,?_⟩) hHeld ?_ ?_
         rotate_left
         ·rintro w' ⟨s0,s1⟩
          go_simp
          with_reducible rfl
         rotate_left
         ·simp only [Act.put,sA,sZ,sS,i64_w,i32_w]
          rfl
         refine take_ (i:=6) (N:=some 25) (v:=?_) (a':=?_) #[tt,tt,tt,ff,ff,tt,tt,ff,ff,ff] rfl rfl (take_ofW HT_.out HW_.out (by kernel_rfl)) (fun _ _ _ h=>h) (Or.inl ⟨by rfl,?_⟩) hHeld ?_ ?_
         rotate_left
         ·rintro w' ⟨s0,s1⟩
          go_simp
          with_reducible rfl
         rotate_left
         ·simp only [Act.put,sA,sZ,sS,i64_w,i32_w]
          rfl
         refine one_ (i:=3) (N:=some 22) #[tt,tt,tt,tt,ff,tt,tt,ff,ff,ff] rfl rfl (one_of HT_.out (by kernel_rfl)) (by decide) (fun K hK=>?_)
         refine goes_ Tryz.func79 (by kernel_rfl) rfl #[.slice A0_0 l0_0.length c0_0,.int .i64 x7_1] (by rfl) rfl rfl zl ?_
         with_reducible refine(nat_digits_at.calls _ _ l0_0 x7_1 t284 _ ?side1 ?side2 A17.out).mono ?_
         (case side1=>repeat (first | exact(Kd.C_below HR0_0.out HB.out) |(with_reducible refine Kd.C_alloc ?_ _) |(with_reducible refine Kd.C_drewN ?_ _) |(with_reducible refine Kd.C_drew ?_)))
         (case side2=>exact HC0_0.out)
         rintro e w' ⟨rfl,⟨nd,rfl⟩⟩
         refine⟨_,rfl,?_⟩
         refine hK.out _ _ ⟨(blk_cell BK274.out 0).trans rfl,(blk_cell BK277.out 0).trans rfl⟩ (fun hHeld=>?_)
         clear hK K
         refine norm_ (a':=?_) ?_ ?_
         rotate_left
         ·show Act.put _ (some 22) _ = _
          simp only [Act.put,sA,sZ,sS,i64_w,i32_w]
          rfl
         refine one_ (i:=4) (N:=some 23) #[tt,tt,tt,tt,tt,tt,tt,ff,ff,ff] rfl rfl (one_of HT_.out (by kernel_rfl)) (by decide) (fun K hK=>?_)
         refine Kd.R_lit_step (Kd.int .u64) _ 59 ?hg (N:=23) ?hd (xs:=([t284] : List Int)) (inner:=[.int .u64 t284]) (ok:=fun _=>True) (okp:=fun _=>True) ?hr ?hp (fun _ hk=>hk) trivial (Below.refl _ _) (Nat.le_refl _) (by simp) ?_;(case hd=>rfl);(case hg=>rfl);(case hr=>exact zh);(case hp=>exact(Reps.one (show Kd.M (Kd.int .u64) _ _ _ t284 [.int .u64 t284] from rfl) (Reps.none _ _)))
         intro v286 w27 ho28 hb hg_ hnew_
         clear hg_ hnew_
         (first | rw [← Ny285.out] at ho28 |(simp only [Int.reduceToNat] at ho28;rw [← Ny285.out] at ho28))
         have HO287:=am (Kd.R_lower (Kd.R_new' (Kd.R_new' ho28 (Kd.R_lt (zR HO_6.out))) (Kd.R_lt (zR HO_278000.out))) (below_size zb))
         replace HO_6:=re HO_6 (Kd.R_base ho28) hb
         replace HO_278000:=re HO_278000 (Kd.R_base ho28) hb
         replace BK274:=kb BK274 hb
         replace BK275:=kb BK275 hb
         replace BK276:=kb BK276 hb
         replace BK277:=kb BK277 hb
         replace HB:=am (below_step zb hb)
         clear hb ho28
         obtain⟨Ao30,co30,eo30⟩:=Kd.R_slice HO_278000.out
         (first | subst eo30 |(injection eo30 with f1_ f2_ f3_;have f4_:=f1_.symm;have f5_:=f3_.symm;clear f1_ f2_ f3_;subst f4_;subst f5_))
         refine hK.out _ _ ⟨(blk_cell BK274.out 0).trans rfl,(blk_cell BK277.out 0).trans rfl⟩ (fun hHeld=>?_)
         clear hK K
         refine norm_ (a':=?_) ?_ ?_
         rotate_left
         ·show Act.put _ (some 23) _ = _
          simp only [Act.put,sA,sZ,sS,i64_w,i32_w]
          rfl
         refine one_ (i:=7) (N:=some 26) #[tt,tt,tt,tt,tt,tt,tt,tt,ff,ff] rfl rfl (one_of HT_.out (by kernel_rfl)) (by decide) (fun K hK=>?_)
         refine Kd.R_append_rows_step (Kd.int .u64) (w0:=w) w.heap.size (by rfl) (.tmp 23) (.tmp 25) 77 59 (.int .u64 0) 8 rfl Tryz.underlying77 info59 rfl (by decide) (by omega) v286 y285 x278000_1 _ _ _ (fun k_=>some k_≠(.slice Ao15 x6_1.length co15 : Value).ownBlock∧some k_≠(.slice Ao30 x278000_1.length co30 : Value).ownBlock) (fun _=>False) rfl rfl ?aO ?aR (fun _ _ h=>h) (fun _ h=>h.elim) ?aF ?aB ?aS ?aL ?_
         (case aR=>exact zC (Kd.R_reads' HO_278000.out).2.2)
         (case aB=>exact zb)
         (case aF=>exact(fun k_ hk=>⟨Kd.fresh' (Kd.R_lt (zR HO_6.out)) k_ hk,Kd.fresh' (Kd.R_lt (zR HO_278000.out)) k_ hk⟩))
         (case aO=>exact(by refine zR ?_;exact Kd.R_mono HO287.out (fun _ hk=>⟨hk.1.2,hk.2⟩)))
         (case aS=>exact(below_size zb))
         (case aL=>have:=LMc18.out;omega)
         intro v289 w29 ho hb hg hat
         rw [← Ny288.out] at ho
         replace HO_6:=am (Kd.R_after (ok:=(fun k_=>some k_≠(.slice Ao30 x278000_1.length co30 : Value).ownBlock)) (zR HO_6.out) hg hat)
         replace HO_278000:=am (Kd.R_after (ok:=(fun k_=>some k_≠(.slice Ao15 x6_1.length co15 : Value).ownBlock)) (zR HO_278000.out) hg hat)
         replace BK274:=am (blk_grown (zk BK274.out) hg (Kd.R_ne HO287.out BK274.out (by decide)))
         replace BK275:=am (blk_grown (zk BK275.out) hg (Kd.R_ne HO287.out BK275.out (by decide)))
         replace BK276:=am (blk_grown (zk BK276.out) hg (Kd.R_ne HO287.out BK276.out (by decide)))
         replace BK277:=am (blk_grown (zk BK277.out) hg (Kd.R_ne HO287.out BK277.out (by decide)))
         replace HB:=am (hb)
         have HO290:=am (ho)
         clear HO287
         clear ho hb hg hat
         obtain⟨Ao31,co31,eo31⟩:=Kd.R_slice HO290.out
         (first | subst eo31 |(injection eo31 with f1_ f2_ f3_;have f4_:=f1_.symm;have f5_:=f3_.symm;clear f1_ f2_ f3_;subst f4_;subst f5_))
         refine hK.out _ _ ⟨(blk_cell BK274.out 0).trans rfl,(blk_cell BK277.out 0).trans rfl⟩ (fun hHeld=>?_)
         clear hK K
         refine norm_ (a':=?_) ?_ ?_
         rotate_left
         ·show Act.put _ (some 26) _ = _
          simp only [Act.put,sA,sZ,sS,i64_w,i32_w]
          rfl
         refine one_ (i:=8) (N:=some 27) #[tt,tt,tt,tt,tt,tt,tt,tt,tt,ff] rfl rfl (one_of HT_.out (by kernel_rfl)) (by decide) (fun K hK=>?_)
         refine goes_ Tryz.func57 (by kernel_rfl) rfl #[.slice Ao31 y288.length co31] (by rfl) rfl rfl zl ?_
         with_reducible refine(nat_carried.calls k1 _ _ y288 t291 _ ?side1 ?side2 A19.out).mono ?_
         (case side1=>exact zC (Kd.R_reads' HO290.out).2.2)
         (case side2=>exact(Kd.R_reads' HO290.out).2.1)
         rintro e w32 ⟨v292,rfl,ho0,hb⟩
         refine⟨_,rfl,?_⟩
         have HO293:=am (Kd.R_lower (Kd.R_new' (Kd.R_new' (Kd.R_new' ho0 (Kd.R_lt (zR HO_6.out))) (Kd.R_lt (zR HO_278000.out))) (Kd.R_lt (zR HO290.out))) (below_size zb))
         replace HO_6:=re HO_6 (Kd.R_base ho0) hb
         replace HO_278000:=re HO_278000 (Kd.R_base ho0) hb
         replace HO290:=re HO290 (Kd.R_base ho0) hb
         replace BK274:=kb BK274 hb
         replace BK275:=kb BK275 hb
         replace BK276:=kb BK276 hb
         replace BK277:=kb BK277 hb
         replace HB:=am (below_step zb hb)
         (try clear hb)
         (try clear hb2)
         (try clear hk)
         (try clear hi)
         (try clear ho0)
         obtain⟨Ao33,co33,eo33⟩:=Kd.R_slice HO293.out
         (first | subst eo33 |(injection eo33 with f1_ f2_ f3_;have f4_:=f1_.symm;have f5_:=f3_.symm;clear f1_ f2_ f3_;subst f4_;subst f5_))
         refine hK.out _ _ ⟨(blk_cell BK274.out 0).trans rfl,(blk_cell BK277.out 0).trans rfl⟩ (fun hHeld=>?_)
         clear hK K
         refine norm_ (a':=?_) ?_ ?_
         rotate_left
         ·show Act.put _ (some 27) _ = _
          simp only [Act.put,sA,sZ,sS,i64_w,i32_w]
          rfl
         refine last_ (i:=9) (N:=none) #[tt,tt,tt,tt,tt,tt,tt,tt,tt,tt] rfl rfl (one_of HT_.out (by kernel_rfl)) (by decide) (fun K hK=>?_)
         have hs34 : w32.cell? ⟨gb277,0,none⟩ = some (.slice Ao30 x278000_1.length co30):=(blk_cell BK277.out 0).trans rfl
         have hfs34:=blk_frozen BK277.out 0
         have hns34_0:=NB274_277.out
         have hns34_1:=NB275_277.out
         have hns34_2:=NB276_277.out
         have hms34_0:=NB277_274.out
         have hms34_1:=NB277_275.out
         have hms34_2:=NB277_276.out
         refine skip_ (w1:=?_) (by rfl) rfl ?_ ?_
         rotate_left
         ·go_simp
          rfl
         refine hK.out _ _ ?_
         clear hK K
         refine done_ (done_of HT_.out (by kernel_rfl)) ?_
         have hnb35:=NB277_274.out
         have hnc35:=NB274_277.out
         have hnb36:=NB277_275.out
         have hnc36:=NB275_277.out
         have hnb37:=NB277_276.out
         have hnc37:=NB276_277.out
         have hcz38_0 : w32.cell? ⟨gb277,0,none⟩ = some (.slice Ao30 x278000_1.length co30):=(blk_cell BK277.out 0).trans rfl
         have hfz38_0:=blk_frozen BK277.out 0
         have hnb39:=NB275_274.out
         have hnc39:=NB274_275.out
         have hnb40:=NB275_276.out
         have hnc40:=NB276_275.out
         have hcz41_0 : w32.cell? ⟨gb275,0,none⟩ = some (.slice A1_0 l1_0.length c1_0):=(blk_cell BK275.out 0).trans rfl
         have hfz41_0:=blk_frozen BK275.out 0
         try go_wp2_with (first |((with_reducible refine gate_callee (f:=94) rfl ?_);refine goesL_ (some 32) rfl rfl Tryz.func94 (by kernel_rfl) rfl #[.agg #[.slice Ao33 t291.length co33],.agg #[.slice A1_0 l1_0.length c1_0]] rfl zl ?_;(with_reducible refine(nat_number_digit.calls k1 _ _ t291 _ _ l1_0 t294 _ ?side1 ?side2 ?side3 ?side4 A20.out).mono ?_);(case side1=>refine(Kd.R_reads' (e:=59) (base:=w.heap.size) (ok:=fun k_=>(((True∧some k_≠(.slice Ao15 x6_1.length co15 : Value).ownBlock)∧some k_≠(.slice Ao30 x278000_1.length co30 : Value).ownBlock)∧some k_≠(.slice Ao31 y288.length co31 : Value).ownBlock)) (n:=t291.length) (c:=co33) ?_).2.2;exact(by refine zR ?_;exact(Kd.R_mono (Kd.R_far (p:=⟨gb277,0,none⟩) (Kd.R_types HO293.out BK277.out (by decide)) (fun _ hk=>hk.2) (.slice Ao33 t291.length co33)) (fun _ h_=>h_.1))));(case side2=>exact(Kd.R_reads' HO293.out).2.1);(case side3=>exact Kd.C_below HR1_0.out zb);(case side4=>exact HC1_0.out);rintro e w42 ⟨rfl,hb⟩;refine⟨_,rfl,?_⟩;replace HO_6:=am (Kd.R_below (by refine zR ?_;exact(Kd.R_mono (Kd.R_far (p:=⟨gb277,0,none⟩) (Kd.R_types HO_6.out BK277.out (by decide)) (fun _ hk=>hk.2) (.slice Ao33 t291.length co33)) (fun _ h_=>h_.1))) hb);replace HO_278000:=am (Kd.R_below (by refine zR ?_;exact(Kd.R_mono (Kd.R_far (p:=⟨gb277,0,none⟩) (Kd.R_types HO_278000.out BK277.out (by decide)) (fun _ hk=>hk.2) (.slice Ao33 t291.length co33)) (fun _ h_=>h_.1))) hb);replace HO290:=am (Kd.R_below (by refine zR ?_;exact(Kd.R_mono (Kd.R_far (p:=⟨gb277,0,none⟩) (Kd.R_types HO290.out BK277.out (by decide)) (fun _ hk=>hk.2) (.slice Ao33 t291.length co33)) (fun _ h_=>h_.1))) hb);replace HO293:=am (Kd.R_below (by refine zR ?_;exact(Kd.R_mono (Kd.R_far (p:=⟨gb277,0,none⟩) (Kd.R_types HO293.out BK277.out (by decide)) (fun _ hk=>hk.2) (.slice Ao33 t291.length co33)) (fun _ h_=>h_.1))) hb);replace BK274:=am (blk_below (g:=gb274) (o:=.cells #[.slice A0_0 l0_0.length c0_0] 83 (0,0)) (by refine zk ?_;refine blk_far ?_ NB274_277.out _;refine zk ?_;exact BK274.out) hb);replace BK275:=am (blk_below (g:=gb275) (o:=.cells #[.slice A1_0 l1_0.length c1_0] 83 (0,0)) (by refine zk ?_;refine blk_far ?_ NB275_277.out _;refine zk ?_;exact BK275.out) hb);replace BK276:=am (blk_below (g:=gb276) (o:=.cells #[.slice none 0 0] 83 (0,0)) (by refine zk ?_;refine blk_far ?_ NB276_277.out _;refine zk ?_;exact BK276.out) hb);replace BK277:=am (blk_below (g:=gb277) (o:=.cells #[.slice Ao33 t291.length co33] 83 (0,0)) (by refine zk ?_;refine blk_put (cs:=#[.slice Ao30 x278000_1.length co30]) ?_ 0 _ rfl;refine zk ?_;exact BK277.out) hb);replace HB:=am (below_step zb hb);(try clear hb);have p23 : 0≤(x7_1 : Int):=of_decide_eq_true za;have q23 : (x7_1 : Int) < ((x6_1.length : Int) : Int):=of_decide_eq_true za;obtain⟨go23,co23,eo23,gb23,gl23,cl23,HG23⟩:=Kd.R_form HO_6.out (by omega);(first | cases eo23 |(injection eo23 with ea_ en_ ec_;(first | subst ea_ |(injection ea_ with ea_;subst ea_));subst ec_;clear en_));have GB23:=am gb23;have GG23:=am HG23;clear gb23 gl23 HG23;obtain⟨hx23_0,hf23_0⟩:=Kd.R_celln 0 HO_6.out (x7_1 : Int) p23 q23;replace p23:=eq_true p23;replace q23:=eq_true q23;have n_:=am (Kd.R_mono (ok':=(fun k_=>some k_≠(.slice Ao30 x278000_1.length co30 : Value).ownBlock∧some k_≠(.slice Ao31 y288.length co31 : Value).ownBlock∧some k_≠(.slice Ao33 t291.length co33 : Value).ownBlock)) HO_6.out (fun k_ hk=>⟨hk.1.1,⟨hk.1.2,hk.2⟩⟩));clear HO_6;have HO_6:=n_;clear n_;obtain⟨hy43_,hz43_⟩:=Kd.R_celln 0 HO_6.out (x7_1 : Int) (of_decide_eq_true za) (of_decide_eq_true za);have HP43:=Kd.R_putg HO_6.out (x7_1 : Int) t294) |((with_reducible refine gate_store (t:=59) (p:=33) rfl ?_);refine store_event (t:=59) (p:=33) (v:=?vo_w44) (w1:=(w42.setCell ⟨go23,(x7_1 : Int).toNat,none⟩ (.int .u64 t294))) ?hg ?ho ?hn ?hr ?_;(case ho=>rfl);(case hg=>rfl);(case hn=>rfl);(case hr=>exact zh);intro w44 hw;have hg : w42.grownBy w44 (some go23):=(by rw [hw];exact HP43.2);have hp_ : Kd.R (Kd.int .u64) 59 w44 w.heap.size (fun k_=>some k_≠(.slice Ao30 x278000_1.length co30 : Value).ownBlock∧some k_≠(.slice Ao31 y288.length co31 : Value).ownBlock∧some k_≠(.slice Ao33 t291.length co33 : Value).ownBlock) (.slice (some ⟨go23,0,none⟩) x6_1.length co15) y295:=(by rw [hw,Ny295.out];exact HP43.1);clear HP43;replace HO_278000:=am (Kd.R_after (v:=(.slice (some ⟨go23,0,none⟩) x6_1.length co15)) (v1:=(.slice (some ⟨go23,0,none⟩) x6_1.length co15)) (ok:=(fun k_=>some k_≠(.slice Ao31 y288.length co31 : Value).ownBlock∧some k_≠(.slice Ao33 t291.length co33 : Value).ownBlock)) (by refine zR ?_;exact Kd.R_mono HO_278000.out (fun _ hk=>⟨⟨hk.1.2,hk.2⟩,hk.1.1⟩)) hg (.inl rfl));replace BK274:=am (blk_grown (zk BK274.out) hg (Kd.R_ne HO_6.out BK274.out (by decide)));replace BK275:=am (blk_grown (zk BK275.out) hg (Kd.R_ne HO_6.out BK275.out (by decide)));replace BK276:=am (blk_grown (zk BK276.out) hg (Kd.R_ne HO_6.out BK276.out (by decide)));replace BK277:=am (blk_grown (zk BK277.out) hg (Kd.R_ne HO_6.out BK277.out (by decide)));replace HO_6:=am (hp_);replace HO290:=am (Kd.R_after (v:=(.slice (some ⟨go23,0,none⟩) x6_1.length co15)) (v1:=(.slice (some ⟨go23,0,none⟩) x6_1.length co15)) (ok:=(fun k_=>some k_≠(.slice Ao30 x278000_1.length co30 : Value).ownBlock∧some k_≠(.slice Ao33 t291.length co33 : Value).ownBlock)) (by refine zR ?_;exact Kd.R_mono HO290.out (fun _ hk=>⟨⟨hk.1.2,hk.2⟩,hk.1.1⟩)) hg (.inl rfl));replace HO293:=am (Kd.R_after (v:=(.slice (some ⟨go23,0,none⟩) x6_1.length co15)) (v1:=(.slice (some ⟨go23,0,none⟩) x6_1.length co15)) (ok:=(fun k_=>some k_≠(.slice Ao30 x278000_1.length co30 : Value).ownBlock∧some k_≠(.slice Ao31 y288.length co31 : Value).ownBlock)) (by refine zR ?_;exact Kd.R_mono HO293.out (fun _ hk=>⟨⟨hk.1.2,hk.2⟩,hk.1.1.2⟩)) hg (.inl rfl));replace HB:=am ((by rw [hw];exact below_set (HB.out) GB23.out : Below w.heap.size w w44));clear hg hw hp_))
         replace HO_6:=am (Kd.R_drew HO_6.out)
         replace HO_278000:=am (Kd.R_drew HO_278000.out)
         replace HO290:=am (Kd.R_drew HO290.out)
         replace HO293:=am (Kd.R_drew HO293.out)
         replace BK274:=am (blk_drew BK274.out)
         replace BK275:=am (blk_drew BK275.out)
         replace BK276:=am (blk_drew BK276.out)
         replace BK277:=am (blk_drew BK277.out)
         replace HB:=am (below_drew1 HB.out)
         have p296 : 0≤(x7_1 : Int):=of_decide_eq_true za
         have q296 : x7_1 < (y295.length : Int):=(by have h_ : (x7_1 : Int) < ((x6_1.length : Int) : Int):=of_decide_eq_true za;first |(have e_:=(Kd.R_reads' HO_6.out).1;omega) | simpa only [Ny295.out,List.length_set] using h_)
         have ql296 : ((x7_1 : Int) < ((x6_1.length : Int) : Int)) = True:=eq_true (of_decide_eq_true za)
         obtain⟨ad296,e296,hx296_0⟩:=Kd.at_int (Kd.R_reads' HO_6.out).2.2 x7_1 p296 q296
         obtain rfl : (⟨go23,0,none⟩ : Addr) = ad296:=(by injection e296)
         (first | simp only [add_plain] at hx296_0 | simp only [add_at] at hx296_0 | simp only [Addr.add,Nat.zero_add] at hx296_0 | skip)
         replace p296:=eq_true p296
         replace q296:=eq_true q296
         refine start_ (n:=9) (S:=fun w'=>w'.cell? ⟨gb277,0,none⟩ = some (.slice Ao33 t291.length co33)∧w'.cell? ⟨gb275,0,none⟩ = some (.slice A1_0 l1_0.length c1_0)∧w'.cell? ⟨go23,(x7_1).toNat,none⟩ = some (.int .u64 (rd y295 x7_1))) (ds:=[8]) #[ff,ff,ff,ff,ff,ff,ff,ff,ff] (by kernel_rfl) rfl rfl ⟨(blk_cell BK277.out 0).trans rfl,(blk_cell BK275.out 0).trans rfl,hx296_0⟩ (fun hHeld=>?_);refine with_tabW nat_number_parted.tab7 nat_number_parted.bits7 (fun HT_ HW_=>?_)
         generalize w44.drew = w45 at HO_6 HO_278000 HO290 HO293 BK274 BK275 BK276 BK277 HB hx296_0 hHeld ⊢
         refine pu (i:=2) (N:=some 36) #[ff,ff,tt,ff,ff,ff,ff,ff,ff] (any_of HT_.out (by kernel_rfl)) ?_
         refine pu (i:=3) (N:=some 37) #[ff,ff,tt,tt,ff,ff,ff,ff,ff] (any_of HT_.out (by kernel_rfl)) ?_
         refine pu (i:=4) (N:=some 38) #[ff,ff,tt,tt,tt,ff,ff,ff,ff] (any_of HT_.out (by kernel_rfl)) ?_
         refine take_ (i:=0) (N:=some 34) (v:=?_) (a':=?_) #[tt,ff,tt,tt,tt,ff,ff,ff,ff] rfl rfl (take_ofW HT_.out HW_.out (by kernel_rfl)) (fun _ _ _ h=>h) (Or.inl ⟨by rfl,?_⟩) hHeld ?_ ?_
         rotate_left
         ·rintro w' ⟨s0,s1,s2⟩
          go_simp
          with_reducible rfl
         rotate_left
         ·simp only [Act.put,sA,sZ,sS,i64_w,i32_w]
          rfl
         refine take_ (i:=1) (N:=some 35) (v:=?_) (a':=?_) #[tt,tt,tt,tt,tt,ff,ff,ff,ff] rfl rfl (take_ofW HT_.out HW_.out (by kernel_rfl)) (fun _ _ _ h=>h) (Or.inl ⟨by rfl,?_⟩) hHeld ?_ ?_
         rotate_left
         ·rintro w' ⟨s0,s1,s2⟩
          go_simp
          with_reducible rfl
         rotate_left
         ·simp only [Act.put,sA,sZ,sS,i64_w,i32_w]
          rfl
         refine take_ (i:=5) (N:=some 39) (v:=?_) (a':=?_) #[tt,tt,tt,tt,tt,tt,ff,ff,ff] rfl rfl (take_ofW HT_.out HW_.out (by kernel_rfl)) (fun _ _ _ h=>h) (Or.inl ⟨by rfl,?_⟩) hHeld ?_ ?_
         rotate_left
         ·rintro w' ⟨s0,s1,s2⟩
          go_simp
          with_reducible rfl
         rotate_left
         ·simp only [Act.put,sA,sZ,sS,i64_w,i32_w]
          rfl
         refine one_ (i:=6) (N:=some 40) #[tt,tt,tt,tt,tt,tt,tt,ff,ff] rfl rfl (one_of HT_.out (by kernel_rfl)) (by decide) (fun K hK=>?_)
         refine goes_ Tryz.func95 (by kernel_rfl) rfl #[.agg #[.slice A1_0 l1_0.length c1_0],.int .u64 (rd y295 x7_1)] (by rfl) rfl rfl zl ?_
         with_reducible refine(nat_number_scaled.calls k1 _ _ l1_0 (rd y295 x7_1) t297 _ ?side1 ?side2 A24.out).mono ?_
         (case side1=>repeat (first | exact(Kd.C_below HR1_0.out HB.out) |(with_reducible refine Kd.C_alloc ?_ _) |(with_reducible refine Kd.C_drewN ?_ _) |(with_reducible refine Kd.C_drew ?_)))
         (case side2=>exact HC1_0.out)
         rintro e w46 ⟨v298,rfl,ho0,hb⟩
         have HS2_:=(hb.cell (World.block_lt_of_cell? _ _ (hHeld.2.2))).trans (hHeld.2.2)
         refine⟨_,rfl,?_⟩
         have HO299:=am (Kd.R_lower (Kd.R_new' (Kd.R_new' (Kd.R_new' (Kd.R_new' ho0 (Kd.R_lt (zR HO_6.out))) (Kd.R_lt (zR HO_278000.out))) (Kd.R_lt (zR HO290.out))) (Kd.R_lt (zR HO293.out))) (below_size zb))
         replace HO_6:=re HO_6 (Kd.R_base ho0) hb
         replace HO_278000:=re HO_278000 (Kd.R_base ho0) hb
         replace HO290:=re HO290 (Kd.R_base ho0) hb
         replace HO293:=re HO293 (Kd.R_base ho0) hb
         replace BK274:=kb BK274 hb
         replace BK275:=kb BK275 hb
         replace BK276:=kb BK276 hb
         replace BK277:=kb BK277 hb
         replace HB:=am (below_step zb hb)
         (try clear hb)
         (try clear hb2)
         (try clear hk)
         (try clear hi)
         (try clear ho0)
         obtain⟨Ao47,co47,eo47⟩:=Kd.R_slice HO299.out
         (first | subst eo47 |(injection eo47 with f1_ f2_ f3_;have f4_:=f1_.symm;have f5_:=f3_.symm;clear f1_ f2_ f3_;subst f4_;subst f5_))
         refine hK.out _ _ ⟨(blk_cell BK277.out 0).trans rfl,(blk_cell BK275.out 0).trans rfl,HS2_⟩ (fun hHeld=>?_)
         clear hK K
         refine norm_ (a':=?_) ?_ ?_
         rotate_left
         ·show Act.put _ (some 40) _ = _
          simp only [Act.put,sA,sZ,sS,i64_w,i32_w]
          rfl
         refine one_ (i:=7) (N:=some 41) #[tt,tt,tt,tt,tt,tt,tt,tt,ff] rfl rfl (one_of HT_.out (by kernel_rfl)) (by decide) (fun K hK=>?_)
         refine goes_ Tryz.func89 (by kernel_rfl) rfl #[.agg #[.slice Ao33 t291.length co33],.agg #[.slice Ao47 t297.length co47]] (by rfl) rfl rfl zl ?_
         with_reducible refine(nat_number_less.calls k1 _ _ t291 _ _ t297 t300 _ ?side1 ?side2 ?side3 ?side4 A25.out).mono ?_
         (case side1=>exact zC (Kd.R_reads' HO293.out).2.2)
         (case side2=>exact(Kd.R_reads' HO293.out).2.1)
         (case side3=>exact zC (Kd.R_reads' HO299.out).2.2)
         (case side4=>exact(Kd.R_reads' HO299.out).2.1)
         rintro e w48 ⟨v301,rfl,ho0,hb⟩
         have HS2_:=(hb.cell (World.block_lt_of_cell? _ _ (hHeld.2.2))).trans (hHeld.2.2)
         refine⟨_,rfl,?_⟩
         have HO302:=am (Kd.R_lower (Kd.R_new' (Kd.R_new' (Kd.R_new' (Kd.R_new' (Kd.R_new' ho0 (Kd.R_lt (zR HO_6.out))) (Kd.R_lt (zR HO_278000.out))) (Kd.R_lt (zR HO290.out))) (Kd.R_lt (zR HO293.out))) (Kd.R_lt (zR HO299.out))) (below_size zb))
         replace HO_6:=re HO_6 (Kd.R_base ho0) hb
         replace HO_278000:=re HO_278000 (Kd.R_base ho0) hb
         replace HO290:=re HO290 (Kd.R_base ho0) hb
         replace HO293:=re HO293 (Kd.R_base ho0) hb
         replace HO299:=re HO299 (Kd.R_base ho0) hb
         replace BK274:=kb BK274 hb
         replace BK275:=kb BK275 hb
         replace BK276:=kb BK276 hb
         replace BK277:=kb BK277 hb
         replace HB:=am (below_step zb hb)
         (try clear hb)
         (try clear hb2)
         (try clear hk)
         (try clear hi)
         (try clear ho0)
         obtain⟨Ao49,co49,eo49⟩:=Kd.R_slice HO302.out
         (first | subst eo49 |(injection eo49 with f1_ f2_ f3_;have f4_:=f1_.symm;have f5_:=f3_.symm;clear f1_ f2_ f3_;subst f4_;subst f5_))
         refine hK.out _ _ ⟨(blk_cell BK277.out 0).trans rfl,(blk_cell BK275.out 0).trans rfl,HS2_⟩ (fun hHeld=>?_)
         clear hK K
         refine norm_ (a':=?_) ?_ ?_
         rotate_left
         ·show Act.put _ (some 41) _ = _
          simp only [Act.put,sA,sZ,sS,i64_w,i32_w]
          rfl
         refine last_ (i:=8) (N:=none) #[tt,tt,tt,tt,tt,tt,tt,tt,tt] rfl rfl (one_of HT_.out (by kernel_rfl)) (by decide) (fun K hK=>?_)
         have hs50 : w48.cell? ⟨gb277,0,none⟩ = some (.slice Ao33 t291.length co33):=(blk_cell BK277.out 0).trans rfl
         have hfs50:=blk_frozen BK277.out 0
         have hns50_0:=NB274_277.out
         have hns50_1:=NB275_277.out
         have hns50_2:=NB276_277.out
         have hms50_0:=NB277_274.out
         have hms50_1:=NB277_275.out
         have hms50_2:=NB277_276.out
         refine skip_ (w1:=?_) (by rfl) rfl ?_ ?_
         rotate_left
         ·go_simp
          rfl
         refine hK.out _ _ ?_
         clear hK K
         refine done_ (done_of HT_.out (by kernel_rfl)) ?_
         try go_wp2
         (try simp only [← hl6_1])
         go_roundg k1
         case measure=>have:=HK1.out;omega
         case rel=>exact⟨(y295),(wrap64 (x7_1 - 1)),(t300),(.slice Ao49 t300.length co49),ze,H',⟨by have:=HK1.out;omega⟩,⟨by(try simp only [hl6_1]);refine zR ?_;exact Kd.R_mono (Kd.R_far (p:=⟨gb277,0,none⟩) (Kd.R_types HO_6.out BK277.out (by decide)) (fun _ hk=>hk.2) (.slice Ao49 t300.length co49)) (fun _ hk=>hk.1.2)⟩,⟨by(try simp only [hl6_1]);refine zR ?_;exact Kd.R_mono (Kd.R_far (p:=⟨gb277,0,none⟩) (Kd.R_types HO302.out BK277.out (by decide)) (fun _ hk=>hk.2) (.slice Ao49 t300.length co49)) (fun _ hk=>hk.1.1.1.1.1.2)⟩,⟨by(try simp only [hl6_1]);refine zk ?_;refine blk_far ?_ NB274_277.out _;refine zk ?_;exact BK274.out⟩,⟨by(try simp only [hl6_1]);refine zk ?_;refine blk_far ?_ NB275_277.out _;refine zk ?_;exact BK275.out⟩,⟨by(try simp only [hl6_1]);refine zk ?_;refine blk_far ?_ NB276_277.out _;refine zk ?_;exact BK276.out⟩,⟨by(try simp only [hl6_1]);refine zk ?_;refine blk_put (cs:=#[.slice Ao33 t291.length co33]) ?_ 0 _ rfl;refine zk ?_;exact BK277.out⟩,⟨zb⟩⟩
        ·rw [if_neg c22] at H
         exact absurd H (by simp)
       ·rw [if_neg c21] at H
        exact absurd H (by simp)
      ·rw [if_neg c18] at H
       exact absurd H (by simp)
     ·rw [if_neg c16] at H
      have c16b0 : decide (0≤x7_1) = false:=decide_eq_false c16
      clear c16
      replace H:=Option.bind_eq_some_iff.mp H
      obtain⟨t281,A510,H⟩:=H
      try dsimp only at H
      have A51:=am A510
      clear A510
      simp only [Option.some.injEq,Prod.mk.injEq] at H
      obtain⟨rfl,rfl⟩:=H
      try go_wp2
      replace HO_6:=am (Kd.R_drew HO_6.out)
      replace HO_278000:=am (Kd.R_drew HO_278000.out)
      replace BK274:=am (blk_drew BK274.out)
      replace BK275:=am (blk_drew BK275.out)
      replace BK276:=am (blk_drew BK276.out)
      replace BK277:=am (blk_drew BK277.out)
      replace HB:=am (below_drew1 HB.out)
      refine start_ (n:=5) (S:=fun w'=>w'.cell? ⟨gb277,0,none⟩ = some (u278000)) (ds:=[4]) #[ff,ff,ff,ff,ff] (by kernel_rfl) rfl rfl ((blk_cell BK277.out 0).trans rfl) (fun hHeld=>?_)
      generalize wr.drew = w52 at HO_6 HO_278000 BK274 BK275 BK276 BK277 HB hHeld ⊢
      refine pu (i:=0) (N:=some 42) #[tt,ff,ff,ff,ff] (by kernel_rfl) ?_
      refine take_ (i:=2) (N:=some 44) (v:=?_) (a':=?_) #[tt,ff,tt,ff,ff] rfl rfl (by kernel_rfl) (fun _ _ _ h=>h) (Or.inl ⟨by rfl,?_⟩) hHeld ?_ ?_
      rotate_left
      ·intro w' s0
       go_simp
       with_reducible rfl
      rotate_left
      ·simp only [Act.put,sA,sZ,sS,i64_w,i32_w]
       rfl
      refine one_ (i:=1) (N:=some 43) #[tt,tt,tt,ff,ff] rfl rfl (by kernel_rfl) (by decide) (fun K hK=>?_)
      refine goes_ Tryz.func57 (by kernel_rfl) rfl #[.slice Ao15 x6_1.length co15] (by rfl) rfl rfl zl ?_
      with_reducible refine(nat_carried.calls k1 _ _ x6_1 t281 _ ?side1 ?side2 A51.out).mono ?_
      (case side1=>exact zC (Kd.R_reads' HO_6.out).2.2)
      (case side2=>exact(Kd.R_reads' HO_6.out).2.1)
      rintro e w53 ⟨v282,rfl,ho0,hb⟩
      refine⟨_,rfl,?_⟩
      have HO283:=am (Kd.R_lower (Kd.R_new' (Kd.R_new' ho0 (Kd.R_lt (zR HO_6.out))) (Kd.R_lt (zR HO_278000.out))) (below_size zb))
      replace HO_6:=re HO_6 (Kd.R_base ho0) hb
      replace HO_278000:=re HO_278000 (Kd.R_base ho0) hb
      replace BK274:=kb BK274 hb
      replace BK275:=kb BK275 hb
      replace BK276:=kb BK276 hb
      replace BK277:=kb BK277 hb
      replace HB:=am (below_step zb hb)
      (try clear hb)
      (try clear hb2)
      (try clear hk)
      (try clear hi)
      (try clear ho0)
      obtain⟨Ao54,co54,eo54⟩:=Kd.R_slice HO283.out
      (first | subst eo54 |(injection eo54 with f1_ f2_ f3_;have f4_:=f1_.symm;have f5_:=f3_.symm;clear f1_ f2_ f3_;subst f4_;subst f5_))
      obtain⟨Ao56,co56,eo56⟩:=Kd.R_slice HO_278000.out
      (first | subst eo56 |(injection eo56 with f1_ f2_ f3_;have f4_:=f1_.symm;have f5_:=f3_.symm;clear f1_ f2_ f3_;subst f4_;subst f5_))
      refine hK.out _ _ ((blk_cell BK277.out 0).trans rfl) (fun hHeld=>?_)
      clear hK K
      refine norm_ (a':=?_) ?_ ?_
      rotate_left
      ·show Act.put _ (some 43) _ = _
       simp only [Act.put,sA,sZ,sS,i64_w,i32_w]
       rfl
      refine one_ (i:=3) (N:=none) #[tt,tt,tt,tt,ff] rfl rfl (by kernel_rfl) (by decide) (fun K hK=>?_)
      have hs55 : w53.cell? ⟨gb276,0,none⟩ = some (.slice none 0 0):=(blk_cell BK276.out 0).trans rfl
      have hfs55:=blk_frozen BK276.out 0
      have hns55_0:=NB274_276.out
      have hns55_1:=NB275_276.out
      have hns55_3:=NB277_276.out
      have hms55_0:=NB276_274.out
      have hms55_1:=NB276_275.out
      have hms55_3:=NB276_277.out
      refine skip_ (w1:=?_) (by rfl) rfl ?_ ?_
      rotate_left
      ·go_simp
       rfl
      refine hK.out _ _ (((cell_far (p:=⟨gb276,_,none⟩) NB277_276.out _).trans (hHeld))) (fun hHeld=>?_)
      clear hK K
      refine last_ (i:=4) (N:=none) #[tt,tt,tt,tt,tt] rfl rfl (by kernel_rfl) (by decide) (fun K hK=>?_)
      have hs57 : w53.cell? ⟨gb277,0,none⟩ = some (.slice Ao56 x278000_1.length co56):=(blk_cell BK277.out 0).trans rfl
      have hfs57:=blk_frozen BK277.out 0
      have hns57_0:=NB274_277.out
      have hns57_1:=NB275_277.out
      have hns57_2:=NB276_277.out
      have hms57_0:=NB277_274.out
      have hms57_1:=NB277_275.out
      have hms57_2:=NB277_276.out
      refine skip_ (w1:=?_) (by rfl) rfl ?_ ?_
      rotate_left
      ·go_simp
       rfl
      refine hK.out _ _ ?_
      clear hK K
      refine done_ (by kernel_rfl) ?_
      try go_wp2
      refine bodyPost_ret (results_cc rfl _ _ gb276 gb277 83 83 #[.slice Ao54 t281.length co54] #[.slice Ao56 x278000_1.length co56] (0,0) (0,0) _ _ rfl (by refine zk ?_;refine blk_far ?_ NB276_277.out _;refine zk ?_;refine blk_put (cs:=#[.slice none 0 0]) ?_ 0 _ rfl;refine zk ?_;exact BK276.out) Tryz.underlying83 rfl (by kernel_rfl) rfl (by refine zk ?_;refine blk_put (cs:=#[.slice Ao56 x278000_1.length co56]) ?_ 0 _ rfl;refine zk ?_;refine blk_far ?_ NB277_276.out _;refine zk ?_;exact BK277.out) Tryz.underlying83 rfl (by kernel_rfl)) rfl ?_
      exact⟨_,_,zf,by refine zR ?_;exact Kd.R_mono (Kd.R_far (p:=⟨gb277,0,none⟩) (Kd.R_far (p:=⟨gb276,0,none⟩) (Kd.R_types (Kd.R_types HO283.out BK276.out (by decide)) BK277.out (by decide)) (fun _ hk=>hk.1.2) (.slice Ao54 t281.length co54)) (fun _ hk=>hk.2) (.slice Ao56 x278000_1.length co56)) (fun _ hk=>hk.1.1.2),by refine zR ?_;exact Kd.R_mono (Kd.R_far (p:=⟨gb277,0,none⟩) (Kd.R_far (p:=⟨gb276,0,none⟩) (Kd.R_types (Kd.R_types HO_278000.out BK276.out (by decide)) BK277.out (by decide)) (fun _ hk=>hk.1.2) (.slice Ao54 t281.length co54)) (fun _ hk=>hk.2) (.slice Ao56 x278000_1.length co56)) (fun _ hk=>hk.1.1.2),zb⟩
  ·rw [if_neg c4] at H
   exact absurd H (by simp)
 ·rw [if_neg c3] at H
  exact absurd H (by simp)

end Go.Proofs.YtcbohpmdeboeoaaGreatDoorRR.X

-- Printed by xprint.py, this session's own program (wip/tool), out of the translation. Lean checks it.
import Derived.Test.YtcbohpmdeboeoaaGreatDoorRRZ
import Derived.Test.YtcbohpmdeboeoaaGreatDoorRRX0
import Derived.Test.YtcbohpmdeboeoaaGreatDoorRRX14
namespace Go.Proofs.YtcbohpmdeboeoaaGreatDoorRR.X
open Go.Proofs.YtcbohpmdeboeoaaGreatDoorRR.Z
open Go.RowKit Go.Proofs.YtcbohpmdeboeoaaGreatDoorRRW.PrintWords Go.Proofs.YtcbohpmdeboeoaaGreatDoorRRW.PrintLast Go.Proofs.YtcbohpmdeboeoaaGreatDoorRRW.PrintMore
open List renaming setIfInBounds_toArray → sA, set_cons_zero → sZ, set_cons_succ → sS
open Aside0 renaming mk → am
open Bool renaming true → tt, false → ff
set_option maxHeartbeats 8000000
set_option maxRecDepth 100000
attribute [local go_sem] max2_int min2_int max_two min_two max_three min_three max_four min_four   -- for this text's walks alone
set_option linter.unusedVariables false
set_option linter.unusedSimpArgs false

/-! ### whetstoneref01_read: function 71 -/
mutual
def whetstoneref01_read.l0 : Nat→List Int→List Int→Int→Option (List Int)
 | 0,_,_,_=>none
 | k + 1,x0,x3,x4=>if x4≥0 then(if (x3.length : Int) > 0 then(if 9≤281474976710656 then((some (List.replicate 9 0 : List Int)).bind fun y671=>(if y671.length + x3.length < 140737488355328 then(whetstoneref01_read.j1 k x0 (y671 ++ x3) x4) else(none))) else(none)) else(whetstoneref01_read.j1 k x0 x3 x4)) else(some x3)
def whetstoneref01_read.j1 : Nat→List Int→List Int→Int→Option (List Int)
 | 0,_,_,_=>none
 | k + 1,x0,x3,x4=>if 0≤x4 then(if x4 < (x0.length : Int) then(whetstoneref01_read.l1 k x0 x3 x4 ([] : List Int) (rd x0 x4)) else(none)) else(none)
def whetstoneref01_read.l1 : Nat→List Int→List Int→Int→List Int→Int→Option (List Int)
 | 0,_,_,_,_,_=>none
 | k + 1,x0,x3,x4,x5,x6=>if x6 > 0 then(if x5.length < 140737488355328 then(whetstoneref01_read.l1 k x0 x3 x4 (x5 ++ [(Int.tmod x6 10) % 256]) ((Int.tdiv x6 10) % 4294967296)) else(none)) else((whetstoneref01_plus.f k x3 x5).bind fun t681=>(whetstoneref01_read.l0 k x0 t681 (wrap64 (x4 - 1))))
end
def whetstoneref01_read.f (k : Nat) (l0 : List Int) : Option (List Int):=whetstoneref01_read.l0 k l0 ([] : List Int) (wrap64 ((l0.length : Int) - 1))
theorem whetstoneref01_read.calls (k : Nat) (A0 : Option Addr) (c0 : Nat) (l0 : List Int) (r : List Int) (w : World) (hr0 : Kd.C (Kd.int .u32) w A0 l0.length l0) (hc0 : l0.length≤c0) (h : whetstoneref01_read.f k l0 = some r) :
  Calls Tryz.prog 71 #[.slice A0 l0.length c0] w fun e w'=>∃ v0_ : Value,e = .returned (v0_)∧Kd.V (Kd.int .u8) 5 w' w.heap.size (fun k_=>(w.heap.size≤k_)) v0_ r∧Below w.heap.size w w':=by
 have HR0:=am hr0
 have HC0:=am hc0
 clear hr0 hc0
 have HB:=am (Below.refl w.heap.size w)
 have H : (whetstoneref01_read.l0 k l0 ([] : List Int) (wrap64 ((l0.length : Int) - 1))) = some r:=h
 clear h
 have H':=am H
 clear H
 go_enter Tryz.func71,Tryz.ntmps71
 go_wp2
 go_loopg [3,4] k (fun kq v3 v4 w'=>∃ (x3_1 : List Int) (x4_1 : Int),v4 = .int .i64 x4_1∧Aside0 (whetstoneref01_read.l0 kq l0 x3_1 x4_1 = some r)∧Aside0 (kq≤k)∧Aside0 (Kd.V (Kd.int .u8) 5 w' w.heap.size (fun k_=>(w.heap.size≤k_)) v3 x3_1)∧Aside0 (Below w.heap.size w w'))
 case atStart=>exact⟨(([] : List Int)),(wrap64 ((l0.length : Int) - 1)),ze,H',⟨Nat.le_refl _⟩,⟨Kd.V_nil _ _ _ _ _⟩,⟨zb⟩⟩
 case round=>
  clear H'
  obtain⟨x3_1,x4_1,rfl,HA,HK1,HO_3,HB⟩:=hrel
  cases gk with
  | zero=>exact absurd HA.out (by simp [whetstoneref01_read.l0])
  | succ k1=>
   have H:=HA.out
   clear HA
   simp only [whetstoneref01_read.l0] at H
   by_cases c2 : x4_1≥0
   ·rw [if_pos c2] at H
    have c2b0 : decide (0≤x4_1) = true:=decide_eq_true c2
    clear c2
    have HC3:=am H
    clear H
    obtain⟨Ao4,co4,eo4⟩:=Kd.V_slice HO_3.out
    subst eo4
    go_upto_if 16 with(fail)
    go_cut [3] (fun v3 wc=>∃ (kq : Nat) (x3_2 : List Int),Aside0 (whetstoneref01_read.j1 kq l0 x3_2 x4_1 = some r)∧Aside0 (kq≤k1)∧Aside0 (Kd.V (Kd.int .u8) 5 wc w.heap.size (fun k_=>(w.heap.size≤k_)) v3 x3_2)∧Aside0 (Below w.heap.size w wc))
    case first=>
     have H:=HC3.out
     clear HC3
     by_cases c5 : (x3_1.length : Int) > 0
     ·rw [if_pos c5] at H
      have c5b0 : decide (0 < (x3_1.length : Int)) = true:=decide_eq_true c5
      have c5b1 : decide (0 < x3_1.length) = true:=decide_eq_true (by omega)
      clear c5
      (first | rw [c5b0] |(simp only [i64_w,i32_w];rw [c5b0]) | rw [c5b1] | skip)
      by_cases c6 : 9≤281474976710656
      ·rw [if_pos c6] at H
       have c6b0:=eq_true c6
       have c6b1 : decide (9≤281474976710656) = true:=decide_eq_true c6
       clear c6
       obtain⟨y671,hy671⟩ : ∃ y_ : List Int,y_ = (List.replicate 9 0):=⟨_,rfl⟩
       replace H : (if y671.length + x3_1.length < 140737488355328 then(whetstoneref01_read.j1 k1 l0 (y671 ++ x3_1) x4_1) else(none)) = some r:=by first |(rw [hy671];with_reducible exact H) |(have H2_:=(Option.bind_some _ _).symm.trans H;rw [hy671];with_reducible exact H2_) |(have H2_:=(Option.bind_some _ _).symm.trans H;with_reducible exact H2_) | with_reducible exact H |(rw [hy671];exact H) | exact H
       have Ny671:=am hy671
       clear hy671
       by_cases c7 : y671.length + x3_1.length < 140737488355328
       ·rw [if_pos c7] at H
        have LMc7:=am c7
        clear c7
        obtain⟨y674,hy674⟩ : ∃ y_ : List Int,y_ = (y671 ++ x3_1):=⟨_,rfl⟩
        replace H : (whetstoneref01_read.j1 k1 l0 y674 x4_1) = some r:=by first |(rw [hy674];with_reducible exact H) |(have H2_:=(Option.bind_some _ _).symm.trans H;rw [hy674];with_reducible exact H2_) |(have H2_:=(Option.bind_some _ _).symm.trans H;with_reducible exact H2_) | with_reducible exact H |(rw [hy674];exact H) | exact H
        have Ny674:=am hy674
        clear hy674
        have H':=am H
        clear H
        go_wp2_with (first |((with_reducible refine gate_dst (N:=17) rfl ?_);refine Kd.R_make (Kd.int .u8) _ 5 rfl (N:=17) rfl 87 _ _ rfl 9 rfl rfl Tryz.underlying87 (.int .u8 0) 1 info5 rfl (by decide) (by omega) 0 (ok:=fun _=>True) (okp:=fun _=>True) rfl (fun _ hk=>hk) trivial (by omega) (by omega) (Below.refl _ _) (Nat.le_refl _) ?_;intro v672 w8 ho9 hb hg_ hnew_;clear hg_ hnew_;(first | rw [← Ny671.out] at ho9 |(simp only [Int.reduceToNat] at ho9;rw [← Ny671.out] at ho9));replace HO_3:=ve HO_3 (Kd.R_base ho9) hb;have HO673:=am (Kd.R_lower (Kd.R_newM (M:=fun k_=>(w.heap.size≤k_)) ho9 (below_size zb) (fun k_ h_=>h_)) (below_size zb));replace HB:=am (below_step zb hb);clear hb ho9) |((with_reducible refine gate_builtin (b:=.append) (xs:=#[.tmp 17,.tmp 18]) rfl ?_);at_builtin;refine Kd.R_append_rows (Kd.int .u8) (w0:=w) w.heap.size rfl (.tmp 17) (.tmp 18) 87 5 (.int .u8 0) 1 rfl Tryz.underlying87 info5 rfl (by decide) (by omega) v672 y671 x3_1 _ _ _ (fun k_=>(w.heap.size≤k_)) (fun _=>False) rfl rfl ?aO ?aR (fun _ _ h=>h) (fun _ h=>h.elim) ?aF ?aB ?aS ?aL ?_;(case aR=>exact zC (Kd.V_reads' HO_3.out).2.2);(case aB=>exact zb);(case aF=>exact(fun k_ hk=>(Nat.le_trans (below_size zb) hk)));(case aO=>exact(by refine zR ?_;exact Kd.R_mono HO673.out (fun _ hk=>hk.1)));(case aS=>exact(below_size zb));(case aL=>have:=LMc7.out;omega);intro v675 w10 ho hb hg hat;rw [← Ny674.out] at ho;replace HO_3:=am (Kd.V_afterv (ok:=(fun k_=>(w.heap.size≤k_))) (zV HO_3.out) hg hat);replace HB:=am (hb);have HO676:=am (ho);clear HO673;clear ho hb hg hat))
        go_meet
        case rel=>exact⟨_,(y674),H',⟨by have:=HK1.out;first | omega | exact Nat.le_refl _⟩,⟨Kd.R_V (zR HO676.out)⟩,⟨zb⟩⟩
       ·rw [if_neg c7] at H
        exact absurd H (by simp)
      ·rw [if_neg c6] at H
       exact absurd H (by simp)
     ·rw [if_neg c5] at H
      have c5b0 : decide (0 < (x3_1.length : Int)) = false:=decide_eq_false c5
      have c5b1 : decide (0 < x3_1.length) = false:=decide_eq_false (by omega)
      clear c5
      (first | rw [c5b0] |(simp only [i64_w,i32_w];rw [c5b0]) | rw [c5b1] | skip)
      have H':=am H
      clear H
      go_wp2
      go_meet
      case rel=>exact⟨_,(x3_1),H',⟨by have:=HK1.out;first | omega | exact Nat.le_refl _⟩,⟨zV HO_3.out⟩,⟨zb⟩⟩
    case rest=>
     clear HC3
     try clear c2
     try clear c2b0
     try clear p2
     try clear c5
     try clear c5b0
     try clear c5b1
     try clear c6
     try clear c6b0
     try clear c6b1
     try clear p6
     try clear c7
     obtain⟨kq,x3_2,HA,HJ2,HO_3,HB⟩:=hcut
     cases kq with
     | zero=>exact absurd HA.out (by simp [whetstoneref01_read.j1])
     | succ kj2=>
      have H:=HA.out
      clear HA
      simp only [whetstoneref01_read.j1] at H
      by_cases c11 : 0≤x4_1
      ·rw [if_pos c11] at H
       have c11b0 : decide (0≤x4_1) = true:=decide_eq_true c11
       clear c11
       by_cases c12 : x4_1 < (l0.length : Int)
       ·rw [if_pos c12] at H
        have c12b0 : decide (x4_1 < (l0.length : Int)) = true:=decide_eq_true c12
        clear c12
        have H':=am H
        clear H
        have p677 : 0≤(x4_1 : Int):=of_decide_eq_true za
        have q677 : x4_1 < (l0.length : Int):=of_decide_eq_true za
        obtain⟨ad677,e677,hx677_0⟩:=Kd.at_int HR0.out x4_1 p677 q677
        cases e677
        replace hx677_0:=(HB.out.cell (World.block_lt_of_cell? w _ hx677_0)).trans hx677_0
        replace p677:=eq_true p677
        replace q677:=eq_true q677
        go_wp2
        go_loopg [5,6] kj2 (fun kq v5 v6 w'=>∃ (x5_3 : List Int) (x6_3 : Int),v6 = .int .u32 x6_3∧Aside0 (whetstoneref01_read.l1 kq l0 x3_2 x4_1 x5_3 x6_3 = some r)∧Aside0 (kq≤kj2)∧Aside0 (Kd.V (Kd.int .u8) 5 w' w.heap.size (fun k_=>(w.heap.size≤k_)∧some k_≠(v5 : Value).ownBlock) u3 x3_2)∧Aside0 (Kd.R (Kd.int .u8) 5 w' w.heap.size (fun k_=>(w.heap.size≤k_)) v5 x5_3)∧Aside0 (Below w.heap.size w w'))
        case atStart=>exact⟨(([] : List Int)),(rd l0 x4_1),ze,H',⟨Nat.le_refl _⟩,⟨by refine zV ?_;exact Kd.V_mono HO_3.out (fun _ hk=>⟨hk,(by simp [Value.ownBlock])⟩)⟩,⟨by first | exact Kd.R_nil _ _ _ _ _ | exact Kd.N_nil _ _ _ _ _ | exact Kd.V_nil _ _ _ _ _ | exact Kd.Q_nil _ _ _ _ _ | exact Kd.S_nil _ _ _ _ _⟩,⟨zb⟩⟩
        case round=>
         clear H'
         try clear c1
         try clear c2
         try clear c2b0
         try clear p2
         try clear c5
         try clear c5b0
         try clear c5b1
         try clear c6
         try clear c6b0
         try clear c6b1
         try clear p6
         try clear q6
         try clear hx6
         try clear c7
         try clear c11
         try clear c11b0
         try clear c12
         try clear c12b0
         try clear hx677_0
         try clear p2
         try clear p6
         try clear p677
         try clear q677
         obtain⟨x5_3,x6_3,rfl,HA,HK3,HO_3,HO_5,HB⟩:=hrel
         cases gk with
         | zero=>exact absurd HA.out (by simp [whetstoneref01_read.l1])
         | succ k3=>
          have H:=HA.out
          clear HA
          simp only [whetstoneref01_read.l1] at H
          by_cases c13 : x6_3 > 0
          ·rw [if_pos c13] at H
           have c13b0 : decide (0 < x6_3) = true:=decide_eq_true c13
           clear c13
           by_cases c14 : x5_3.length < 140737488355328
           ·rw [if_pos c14] at H
            have LMc14:=am c14
            clear c14
            obtain⟨y678,hy678⟩ : ∃ y_ : List Int,y_ = (x5_3 ++ [(Int.tmod x6_3 10) % 256]):=⟨_,rfl⟩
            replace H : (whetstoneref01_read.l1 k3 l0 x3_2 x4_1 y678 ((Int.tdiv x6_3 10) % 4294967296)) = some r:=by first |(rw [hy678];with_reducible exact H) |(have H2_:=(Option.bind_some _ _).symm.trans H;rw [hy678];with_reducible exact H2_) |(have H2_:=(Option.bind_some _ _).symm.trans H;with_reducible exact H2_) | with_reducible exact H |(rw [hy678];exact H) | exact H
            have Ny678:=am hy678
            clear hy678
            have H':=am H
            clear H
            go_wp2_with (first |((with_reducible refine gate_builtin (b:=.append) (xs:=#[.tmp 28,.tmp 32]) rfl ?_);at_builtin;refine Kd.R_append (Kd.int .u8) (w0:=w) w.heap.size rfl (.tmp 28) (.tmp 32) 87 5 (.int .u8 0) 1 rfl Tryz.underlying87 info5 rfl (by decide) (by omega) u5 x5_3 ((Int.tmod x6_3 10) % 256) [.int .u8 ((Int.tmod x6_3 10) % 256)] (fun k_=>(w.heap.size≤k_)) (fun _=>False) rfl rfl ?aP (fun _ hk=>hk.elim) ?aF ?aO ?aB ?aS ?aL ?_;(case aP=>exact rfl);(case aB=>exact zb);(case aF=>exact(fun k_ hk=>(Nat.le_trans (below_size zb) hk)));(case aO=>exact(zR HO_5.out));(case aS=>exact(below_size zb));(case aL=>have:=LMc14.out;omega);intro v679 w15 ho hb hg hat;rw [← Ny678.out] at ho;replace HO_3:=am (Kd.V_afterv (ok:=(fun k_=>(w.heap.size≤k_))) (zV HO_3.out) hg hat);replace HB:=am (hb);have HO680:=am (ho);clear HO_5;clear ho hb hg hat))
            go_roundg k3
            case measure=>have:=HK1.out;have:=HJ2.out;have:=HK3.out;omega
            case rel=>exact⟨(y678),((Int.tdiv x6_3 10) % 4294967296),ze,H',⟨by have:=HK1.out;have:=HJ2.out;have:=HK3.out;omega⟩,⟨zV HO_3.out⟩,⟨zR HO680.out⟩,⟨zb⟩⟩
           ·rw [if_neg c14] at H
            exact absurd H (by simp)
          ·rw [if_neg c13] at H
           have c13b0 : decide (0 < x6_3) = false:=decide_eq_false c13
           clear c13
           replace H:=Option.bind_eq_some_iff.mp H
           obtain⟨t681,A160,H⟩:=H
           try dsimp only at H
           have A16:=am A160
           clear A160
           have H':=am H
           clear H
           obtain⟨Ao17,co17,eo17⟩:=Kd.V_slice HO_3.out
           subst eo17
           obtain⟨Ao18,co18,eo18⟩:=Kd.R_slice HO_5.out
           subst eo18
           go_wp2_with (first |((with_reducible refine gate_callee (f:=90) rfl ?_);refine goesL_ (some 36) rfl rfl Tryz.func90 (by kernel_rfl) rfl #[.slice Ao17 x3_2.length co17,.slice Ao18 x5_3.length co18] rfl zl ?_;(with_reducible refine(whetstoneref01_plus.calls k3 _ _ x3_2 _ _ x5_3 t681 _ ?side1 ?side2 ?side3 ?side4 A16.out).mono ?_);(case side1=>exact zC (Kd.V_reads' HO_3.out).2.2);(case side2=>exact(Kd.V_reads' HO_3.out).2.1);(case side3=>exact zC (Kd.R_reads' HO_5.out).2.2);(case side4=>exact(Kd.R_reads' HO_5.out).2.1);rintro e w19 ⟨v682,rfl,ho0,hb⟩;refine⟨_,rfl,?_⟩;replace HO_3:=vb HO_3 hb;have HO683:=am (Kd.V_lower (Kd.V_mono (ok':=fun k_=>(w.heap.size≤k_)∧some k_≠(.slice Ao18 x5_3.length co18 : Value).ownBlock) ho0 (fun k_ hk_=>⟨(Nat.le_trans (below_size zb) hk_),(Kd.fresh' (Kd.R_lt (zR HO_5.out)) k_ hk_)⟩)) (below_size zb));replace HO_5:=rb HO_5 hb;replace HB:=am (below_step zb hb);(try clear hb);(try clear ho0)))
           go_roundg k3
           case measure=>have:=HK1.out;have:=HJ2.out;have:=HK3.out;omega
           case rel=>exact⟨(t681),(wrap64 (x4_1 - 1)),ze,H',⟨by have:=HK1.out;have:=HJ2.out;have:=HK3.out;omega⟩,⟨by refine zV ?_;exact Kd.V_mono HO683.out (fun _ hk=>hk.1)⟩,⟨zb⟩⟩
       ·rw [if_neg c12] at H
        exact absurd H (by simp)
      ·rw [if_neg c11] at H
       exact absurd H (by simp)
   ·rw [if_neg c2] at H
    have c2b0 : decide (0≤x4_1) = false:=decide_eq_false c2
    clear c2
    obtain rfl:=Option.some.inj H
    go_wp2
    go_ret
    exact⟨_,zf,zV HO_3.out,zb⟩

/-! ### whetstoneref01_Trim: function 46 -/
def whetstoneref01_Trim.f (k : Nat) (l0 : List Int) : Option (List Int):=(whetstoneref01_read.f k l0).bind fun t684=>((whetstoneref01_write.f k t684).bind fun t687=>(some t687))
theorem whetstoneref01_Trim.calls (k : Nat) (A0 : Option Addr) (c0 : Nat) (l0 : List Int) (r : List Int) (w : World) (hr0 : Kd.C (Kd.int .u32) w A0 l0.length l0) (hc0 : l0.length≤c0) (h : whetstoneref01_Trim.f k l0 = some r) :
  Calls Tryz.prog 46 #[.slice A0 l0.length c0] w fun e w'=>∃ v0_ : Value,e = .returned (v0_)∧Kd.R (Kd.int .u32) 60 w' w.heap.size (fun _=>True) v0_ r∧Below w.heap.size w w':=by
 have HR0:=am hr0
 have HC0:=am hc0
 clear hr0 hc0
 have HB:=am (Below.refl w.heap.size w)
 have H : ((whetstoneref01_read.f k l0).bind fun t684=>((whetstoneref01_write.f k t684).bind fun t687=>(some t687))) = some r:=h
 clear h
 replace H:=Option.bind_eq_some_iff.mp H
 obtain⟨t684,A20,H⟩:=H
 try dsimp only at H
 have A2:=am A20
 clear A20
 replace H:=Option.bind_eq_some_iff.mp H
 obtain⟨t687,A30,H⟩:=H
 try dsimp only at H
 have A3:=am A30
 clear A30
 obtain rfl:=Option.some.inj H
 go_enter Tryz.func46,Tryz.ntmps46
 go_wp2_with (first |((with_reducible refine gate_callee (f:=71) rfl ?_);refine goesL_ (some 4) rfl rfl Tryz.func71 (by kernel_rfl) rfl #[.slice A0 l0.length c0] rfl zl ?_;(with_reducible refine(whetstoneref01_read.calls k _ _ l0 t684 _ ?side1 ?side2 A2.out).mono ?_);(case side1=>exact zC HR0.out);(case side2=>exact HC0.out);rintro e w4 ⟨v685,rfl,ho0,hb⟩;refine⟨_,rfl,?_⟩;have HO686:=am (Kd.V_lower (Kd.V_mono (ok':=fun k_=>True) ho0 (fun k_ hk_=>trivial)) (below_size zb));replace HB:=am (below_step zb hb);(try clear hb);(try clear ho0);obtain⟨Ao5,co5,eo5⟩:=Kd.V_slice HO686.out;subst eo5) |((with_reducible refine gate_callee (f:=60) rfl ?_);refine goesL_ (some 5) rfl rfl Tryz.func60 (by kernel_rfl) rfl #[.slice Ao5 t684.length co5] rfl zl ?_;(with_reducible refine(whetstoneref01_write.calls k _ _ t684 t687 _ ?side1 ?side2 A3.out).mono ?_);(case side1=>exact zC (Kd.V_reads' HO686.out).2.2);(case side2=>exact(Kd.V_reads' HO686.out).2.1);rintro e w6 ⟨v688,rfl,ho0,hb⟩;refine⟨_,rfl,?_⟩;replace HO686:=ve HO686 (Kd.R_base ho0) hb;have HO689:=am (Kd.R_lower ho0 (below_size zb));replace HB:=am (below_step zb hb);(try clear hb);(try clear ho0)))
 go_ret
 exact⟨_,zf,zR HO689.out,zb⟩

/-! ### whetstoneref02_of: function 32 -/
def whetstoneref02_of.f (k : Nat) (a0 : Bool) (l1 : List Int) : Option (Bool×List Int):=(whetstoneref01_Trim.f k l1).bind fun t691=>(if a0 = true then(some (decide (0 < t691.length),t691)) else(some (false,t691)))
theorem whetstoneref02_of.calls (k : Nat) (a0 : Bool) (A1 : Option Addr) (c1 : Nat) (l1 : List Int) (r1 : Bool) (r2 : List Int) (w : World) (hr1 : Kd.C (Kd.int .u32) w A1 l1.length l1) (hc1 : l1.length≤c1) (h : whetstoneref02_of.f k a0 l1 = some (r1,r2)) :
  Calls Tryz.prog 32 #[.bool a0,.slice A1 l1.length c1] w fun e w'=>∃ v1_ : Value,e = .returned (.agg #[.bool r1,v1_])∧Kd.R (Kd.int .u32) 60 w' w.heap.size (fun _=>True) v1_ r2∧Below w.heap.size w w':=by
 have hu25:=Tryz.underlying25
 have HR1:=am hr1
 have HC1:=am hc1
 clear hr1 hc1
 have HB:=am (Below.refl w.heap.size w)
 have H : ((whetstoneref01_Trim.f k l1).bind fun t691=>(if a0 = true then(some (decide (0 < t691.length),t691)) else(some (false,t691)))) = some (r1,r2):=h
 clear h
 replace H:=Option.bind_eq_some_iff.mp H
 obtain⟨t691,A30,H⟩:=H
 try dsimp only at H
 have A3:=am A30
 clear A30
 by_cases c4 : a0 = true
 ·subst c4
  have H1 : (some (decide (0 < t691.length),t691)) = some (r1,r2):=by rw [if_pos rfl] at H;exact H
  clear H
  have H:=H1
  clear H1
  simp only [Option.some.injEq,Prod.mk.injEq] at H
  obtain⟨rfl,rfl⟩:=H
  go_enter Tryz.func32,Tryz.ntmps32
  go_wp2_with (first |((with_reducible refine gate_dst (N:=4) rfl ?_);(try (refine gate_guard (by rfl) ?_;dsimp only));refine box_event ?hg (N:=4) ?hd (cs:=#[.bool false,.slice none 0 0]) (t:=25) ?hr ?_;(case hd=>rfl);(case hg=>rfl);(case hr=>exact zh);intro gb690 hg w5 hbox hb;have BK690:=am (hbox);have GW690:=gw w hg;have GE690:=gw w hg;replace HB:=am (below_step zb hb);clear hb hbox hg) |((with_reducible refine gate_callee (f:=46) rfl ?_);refine goesL_ (some 7) rfl rfl Tryz.func46 (by kernel_rfl) rfl #[.slice A1 l1.length c1] rfl zl ?_;(with_reducible refine(whetstoneref01_Trim.calls k _ _ l1 t691 _ ?side1 ?side2 A3.out).mono ?_);(case side1=>repeat (first | exact(Kd.C_below HR1.out HB.out) |(with_reducible refine Kd.C_alloc ?_ _) |(with_reducible refine Kd.C_drewN ?_ _) |(with_reducible refine Kd.C_drew ?_)));(case side2=>exact HC1.out);rintro e w6 ⟨v692,rfl,ho0,hb⟩;refine⟨_,rfl,?_⟩;have HO693:=am (Kd.R_lower ho0 (below_size zb));replace BK690:=kb BK690 hb;replace HB:=am (below_step zb hb);(try clear hb);(try clear ho0);obtain⟨Ao7,co7,eo7⟩:=Kd.R_slice HO693.out;subst eo7;have hcz8_0 : w6.cell? ⟨gb690,0,none⟩ = some (.bool false):=(blk_cell BK690.out 0).trans rfl;have hcz8_1 : w6.cell? ⟨gb690,1,none⟩ = some (.slice none 0 0):=(blk_cell BK690.out 1).trans rfl;have hfz8_0:=blk_frozen BK690.out 0;have hfz8_1:=blk_frozen BK690.out 1))
  refine bodyPost_ret (results_cell_row rfl _ _ gb690 25 #[.bool (decide (0 < t691.length)),.slice Ao7 t691.length co7] (0,0) _ rfl (by refine zk ?_;refine blk_put (cs:=#[.bool (decide (0 < t691.length)),.slice none 0 0]) ?_ 1 _ rfl;refine zk ?_;refine blk_put (cs:=#[.bool false,.slice none 0 0]) ?_ 0 _ rfl;refine zk ?_;exact BK690.out) Tryz.underlying25 rfl (by kernel_rfl)) rfl ?_
  exact⟨_,zf,by refine zR ?_;exact Kd.R_mono (Kd.R_far (p:=⟨gb690,1,none⟩) (Kd.R_far (p:=⟨gb690,0,none⟩) (Kd.R_types HO693.out BK690.out (by decide)) (fun _ hk=>hk.2) (.bool (decide (0 < t691.length)))) (fun _ hk=>hk.2) (.slice Ao7 t691.length co7)) (fun _ hk=>trivial),zb⟩
 ·replace c4:=Bool.eq_false_iff.mpr c4
  subst c4
  have H1 : (some (false,t691)) = some (r1,r2):=by rw [if_neg (show ¬ (false = true) by decide)] at H;exact H
  clear H
  have H:=H1
  clear H1
  simp only [Option.some.injEq,Prod.mk.injEq] at H
  obtain⟨rfl,rfl⟩:=H
  go_enter Tryz.func32,Tryz.ntmps32
  go_wp2_with (first |((with_reducible refine gate_dst (N:=4) rfl ?_);(try (refine gate_guard (by rfl) ?_;dsimp only));refine box_event ?hg (N:=4) ?hd (cs:=#[.bool false,.slice none 0 0]) (t:=25) ?hr ?_;(case hd=>rfl);(case hg=>rfl);(case hr=>exact zh);intro gb690 hg w9 hbox hb;have BK690:=am (hbox);have GW690:=gw w hg;have GE690:=gw w hg;replace HB:=am (below_step zb hb);clear hb hbox hg) |((with_reducible refine gate_callee (f:=46) rfl ?_);refine goesL_ (some 7) rfl rfl Tryz.func46 (by kernel_rfl) rfl #[.slice A1 l1.length c1] rfl zl ?_;(with_reducible refine(whetstoneref01_Trim.calls k _ _ l1 t691 _ ?side1 ?side2 A3.out).mono ?_);(case side1=>repeat (first | exact(Kd.C_below HR1.out HB.out) |(with_reducible refine Kd.C_alloc ?_ _) |(with_reducible refine Kd.C_drewN ?_ _) |(with_reducible refine Kd.C_drew ?_)));(case side2=>exact HC1.out);rintro e w10 ⟨v692,rfl,ho0,hb⟩;refine⟨_,rfl,?_⟩;have HO693:=am (Kd.R_lower ho0 (below_size zb));replace BK690:=kb BK690 hb;replace HB:=am (below_step zb hb);(try clear hb);(try clear ho0);obtain⟨Ao11,co11,eo11⟩:=Kd.R_slice HO693.out;subst eo11;have hcz12_0 : w10.cell? ⟨gb690,0,none⟩ = some (.bool false):=(blk_cell BK690.out 0).trans rfl;have hcz12_1 : w10.cell? ⟨gb690,1,none⟩ = some (.slice none 0 0):=(blk_cell BK690.out 1).trans rfl;have hfz12_0:=blk_frozen BK690.out 0;have hfz12_1:=blk_frozen BK690.out 1))
  refine bodyPost_ret (results_cell_row rfl _ _ gb690 25 #[.bool false,.slice Ao11 t691.length co11] (0,0) _ rfl (by refine zk ?_;refine blk_put (cs:=#[.bool false,.slice none 0 0]) ?_ 1 _ rfl;refine zk ?_;refine blk_put (cs:=#[.bool false,.slice none 0 0]) ?_ 0 _ rfl;refine zk ?_;exact BK690.out) Tryz.underlying25 rfl (by kernel_rfl)) rfl ?_
  exact⟨_,zf,by refine zR ?_;exact Kd.R_mono (Kd.R_far (p:=⟨gb690,1,none⟩) (Kd.R_far (p:=⟨gb690,0,none⟩) (Kd.R_types HO693.out BK690.out (by decide)) (fun _ hk=>hk.2) (.bool false)) (fun _ hk=>hk.2) (.slice Ao11 t691.length co11)) (fun _ hk=>trivial),zb⟩

/-! ### whetstoneref02_Of: function 11 -/
mutual
def whetstoneref02_Of.j0 : Nat→Int→Int→Option (Bool×List Int)
 | 0,_,_=>none
 | k + 1,x0,x3=>whetstoneref02_Of.l0 k x0 x3 ([] : List Int)
def whetstoneref02_Of.l0 : Nat→Int→Int→List Int→Option (Bool×List Int)
 | 0,_,_,_=>none
 | k + 1,x0,x3,x4=>if x3 > 0 then(if x4.length < 35184372088832 then(whetstoneref02_Of.l0 k x0 (IntKind.u64.wrap (Int.tdiv x3 1000000000)) (x4 ++ [(Int.tmod x3 1000000000) % 4294967296])) else(none)) else((whetstoneref02_of.f k (decide (x0 < 0)) x4).bind fun bt698=>(some (bt698.1,bt698.2)))
end
def whetstoneref02_Of.f (k : Nat) (a0 : Int) : Option (Bool×List Int):=if a0 < 0 then(whetstoneref02_Of.j0 k a0 (IntKind.u64.wrap (-(IntKind.u64.wrap (a0))))) else(whetstoneref02_Of.j0 k a0 (IntKind.u64.wrap (a0)))
theorem whetstoneref02_Of.calls (k : Nat) (a0 : Int) (r1 : Bool) (r2 : List Int) (w : World) (h : whetstoneref02_Of.f k a0 = some (r1,r2)) :
  Calls Tryz.prog 11 #[.int .i64 a0] w fun e w'=>∃ v1_ : Value,e = .returned (.agg #[.bool r1,v1_])∧Kd.R (Kd.int .u32) 60 w' w.heap.size (fun _=>True) v1_ r2∧Below w.heap.size w w':=by
 have hu25:=Tryz.underlying25
 have HB:=am (Below.refl w.heap.size w)
 have H : (if a0 < 0 then(whetstoneref02_Of.j0 k a0 (IntKind.u64.wrap (-(IntKind.u64.wrap (a0))))) else(whetstoneref02_Of.j0 k a0 (IntKind.u64.wrap (a0)))) = some (r1,r2):=h
 clear h
 have HC2:=am H
 clear H
 go_enter Tryz.func11,Tryz.ntmps11
 go_upto_if 8 with(first |((with_reducible refine gate_dst (N:=2) rfl ?_);refine box_event ?hg (N:=2) ?hd (cs:=#[.bool false,.slice none 0 0]) (t:=25) ?hr ?_;(case hd=>rfl);(case hg=>rfl);(case hr=>exact zh);intro gb694 hg w3 hbox hb;have BK694:=am (hbox);have GW694:=gw w hg;have GE694:=gw w hg;replace HB:=am (below_step zb hb);clear hb hbox hg))
 (try simp only [Act.put,sA,sZ,sS])
 go_cut [3] (fun v3 wc=>∃ (kq : Nat) (x3_1 : Int),v3 = .int .u64 x3_1∧Aside0 (whetstoneref02_Of.j0 kq a0 x3_1 = some (r1,r2))∧Aside0 (kq≤k)∧Aside0 (wc.heap[gb694]? = some (.cells #[.bool false,(.slice none 0 0)] 25 (0,0)))∧Aside0 (Below w.heap.size w wc))
 case first=>
  have H:=HC2.out
  clear HC2
  by_cases c4 : a0 < 0
  ·rw [if_pos c4] at H
   have c4b0 : decide (a0 < 0) = true:=decide_eq_true c4
   clear c4
   (first | rw [c4b0] |(simp only [i64_w,i32_w];rw [c4b0]) | rw [c4b1] | skip)
   have H':=am H
   clear H
   go_wp2
   go_meet
   case rel=>exact⟨_,(IntKind.u64.wrap (-(IntKind.u64.wrap (a0)))),ze,H',⟨zo⟩,⟨zk BK694.out⟩,⟨zb⟩⟩
  ·rw [if_neg c4] at H
   have c4b0 : decide (a0 < 0) = false:=decide_eq_false c4
   clear c4
   (first | rw [c4b0] |(simp only [i64_w,i32_w];rw [c4b0]) | rw [c4b1] | skip)
   have H':=am H
   clear H
   go_wp2
   go_meet
   case rel=>exact⟨_,(IntKind.u64.wrap (a0)),ze,H',⟨zo⟩,⟨zk BK694.out⟩,⟨zb⟩⟩
 case rest=>
  clear HC2
  try clear c1
  try clear p2
  try clear c4
  try clear c4b0
  try clear c4b1
  obtain⟨kq,x3_1,rfl,HA,HJ1,BK694,HB⟩:=hcut
  cases kq with
  | zero=>exact absurd HA.out (by simp [whetstoneref02_Of.j0])
  | succ kj1=>
   have H:=HA.out
   clear HA
   simp only [whetstoneref02_Of.j0] at H
   have H':=am H
   clear H
   go_wp2
   go_loopg [3,4] kj1 (fun kq v3 v4 w'=>∃ (x3_2 : Int) (x4_2 : List Int),v3 = .int .u64 x3_2∧Aside0 (whetstoneref02_Of.l0 kq a0 x3_2 x4_2 = some (r1,r2))∧Aside0 (kq≤kj1)∧Aside0 (Kd.R (Kd.int .u32) 60 w' w.heap.size (fun _=>True) v4 x4_2)∧Aside0 (w'.heap[gb694]? = some (.cells #[.bool false,(.slice none 0 0)] 25 (0,0)))∧Aside0 (Below w.heap.size w w'))
   case atStart=>exact⟨(x3_1),(([] : List Int)),ze,H',⟨Nat.le_refl _⟩,⟨by first | exact Kd.R_nil _ _ _ _ _ | exact Kd.N_nil _ _ _ _ _ | exact Kd.V_nil _ _ _ _ _ | exact Kd.Q_nil _ _ _ _ _ | exact Kd.S_nil _ _ _ _ _⟩,⟨zk BK694.out⟩,⟨zb⟩⟩
   case round=>
    clear H'
    try clear c1
    try clear p2
    try clear c4
    try clear c4b0
    try clear c4b1
    try clear p2
    obtain⟨x3_2,x4_2,rfl,HA,HK2,HO_4,BK694,HB⟩:=hrel
    cases gk with
    | zero=>exact absurd HA.out (by simp [whetstoneref02_Of.l0])
    | succ k2=>
     have H:=HA.out
     clear HA
     simp only [whetstoneref02_Of.l0] at H
     by_cases c5 : x3_2 > 0
     ·rw [if_pos c5] at H
      have c5b0 : decide (0 < x3_2) = true:=decide_eq_true c5
      clear c5
      by_cases c6 : x4_2.length < 35184372088832
      ·rw [if_pos c6] at H
       have LMc6:=am c6
       clear c6
       obtain⟨y695,hy695⟩ : ∃ y_ : List Int,y_ = (x4_2 ++ [(Int.tmod x3_2 1000000000) % 4294967296]):=⟨_,rfl⟩
       replace H : (whetstoneref02_Of.l0 k2 a0 (IntKind.u64.wrap (Int.tdiv x3_2 1000000000)) y695) = some (r1,r2):=by first |(rw [hy695];with_reducible exact H) |(have H2_:=(Option.bind_some _ _).symm.trans H;rw [hy695];with_reducible exact H2_) |(have H2_:=(Option.bind_some _ _).symm.trans H;with_reducible exact H2_) | with_reducible exact H |(rw [hy695];exact H) | exact H
       have Ny695:=am hy695
       clear hy695
       have H':=am H
       clear H
       go_wp2_with (first |((with_reducible refine gate_builtin (b:=.append) (xs:=#[.tmp 13,.tmp 17]) rfl ?_);at_builtin;refine Kd.R_append (Kd.int .u32) (w0:=w) w.heap.size rfl (.tmp 13) (.tmp 17) 23 60 (.int .u32 0) 4 rfl Tryz.underlying23 info60 rfl (by decide) (by omega) u4 x4_2 ((Int.tmod x3_2 1000000000) % 4294967296) [.int .u32 ((Int.tmod x3_2 1000000000) % 4294967296)] (fun _=>True) (fun _=>False) rfl rfl ?aP (fun _ hk=>hk.elim) ?aF ?aO ?aB ?aS ?aL ?_;(case aP=>exact rfl);(case aB=>exact zb);(case aF=>exact(fun _ _=>trivial));(case aO=>exact(zR HO_4.out));(case aS=>exact(below_size zb));(case aL=>have:=LMc6.out;omega);intro v696 w7 ho hb hg hat;rw [← Ny695.out] at ho;replace BK694:=am (blk_grown (zk BK694.out) hg (Kd.R_ne HO_4.out BK694.out (by decide)));replace HB:=am (hb);have HO697:=am (ho);clear HO_4;clear ho hb hg hat))
       go_roundg k2
       case measure=>have:=HJ1.out;have:=HK2.out;omega
       case rel=>exact⟨(IntKind.u64.wrap (Int.tdiv x3_2 1000000000)),(y695),ze,H',⟨by have:=HJ1.out;have:=HK2.out;omega⟩,⟨zR HO697.out⟩,⟨zk BK694.out⟩,⟨zb⟩⟩
      ·rw [if_neg c6] at H
       exact absurd H (by simp)
     ·rw [if_neg c5] at H
      have c5b0 : decide (0 < x3_2) = false:=decide_eq_false c5
      clear c5
      replace H:=Option.bind_eq_some_iff.mp H
      obtain⟨⟨t698,t699⟩,A80,H⟩:=H
      try dsimp only at H
      have A8:=am A80
      clear A80
      simp only [Option.some.injEq,Prod.mk.injEq] at H
      obtain⟨rfl,rfl⟩:=H
      obtain⟨Ao9,co9,eo9⟩:=Kd.R_slice HO_4.out
      subst eo9
      go_wp2_with (first |((with_reducible refine gate_callee (f:=32) rfl ?_);refine goesL_ (some 24) rfl rfl Tryz.func32 (by kernel_rfl) rfl #[.bool (decide (a0 < 0)),.slice Ao9 x4_2.length co9] rfl zl ?_;(with_reducible refine(whetstoneref02_of.calls k2 (decide (a0 < 0)) _ _ x4_2 t698 t699 _ ?side1 ?side2 A8.out).mono ?_);(case side1=>exact zC (Kd.R_reads' HO_4.out).2.2);(case side2=>exact(Kd.R_reads' HO_4.out).2.1);rintro e w10 ⟨v700,rfl,ho0,hb⟩;refine⟨_,rfl,?_⟩;have HO701:=am (Kd.R_lower (Kd.R_new' ho0 (Kd.R_lt (zR HO_4.out))) (below_size zb));replace HO_4:=re HO_4 (Kd.R_base ho0) hb;replace BK694:=kb BK694 hb;replace HB:=am (below_step zb hb);(try clear hb);(try clear ho0);have hcz11_0 : w10.cell? ⟨gb694,0,none⟩ = some (.bool false):=(blk_cell BK694.out 0).trans rfl;have hcz11_1 : w10.cell? ⟨gb694,1,none⟩ = some (.slice none 0 0):=(blk_cell BK694.out 1).trans rfl;have hfz11_0:=blk_frozen BK694.out 0;have hfz11_1:=blk_frozen BK694.out 1;obtain⟨Ao12,co12,eo12⟩:=Kd.R_slice HO701.out;subst eo12))
      refine bodyPost_ret (results_cell_row rfl _ _ gb694 25 #[.bool t698,.slice Ao12 t699.length co12] (0,0) _ rfl (by refine zk ?_;refine blk_put (cs:=#[.bool t698,.slice none 0 0]) ?_ 1 _ rfl;refine zk ?_;refine blk_put (cs:=#[.bool false,.slice none 0 0]) ?_ 0 _ rfl;refine zk ?_;exact BK694.out) Tryz.underlying25 rfl (by kernel_rfl)) rfl ?_
      exact⟨_,zf,by refine zR ?_;exact Kd.R_mono (Kd.R_far (p:=⟨gb694,1,none⟩) (Kd.R_far (p:=⟨gb694,0,none⟩) (Kd.R_types HO701.out BK694.out (by decide)) (fun _ hk=>hk.2) (.bool t698)) (fun _ hk=>hk.2) (.slice Ao12 t699.length co12)) (fun _ hk=>trivial),zb⟩

end Go.Proofs.YtcbohpmdeboeoaaGreatDoorRR.X

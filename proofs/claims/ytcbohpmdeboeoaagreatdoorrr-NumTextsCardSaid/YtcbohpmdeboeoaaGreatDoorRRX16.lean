-- Printed by xprint.py, this session's own program (wip/tool), out of the translation. Lean checks it.
import Derived.Test.YtcbohpmdeboeoaaGreatDoorRRZ
import Derived.Test.YtcbohpmdeboeoaaGreatDoorRRX0
import Derived.Test.YtcbohpmdeboeoaaGreatDoorRRX3
import Derived.Test.YtcbohpmdeboeoaaGreatDoorRRX13
import Derived.Test.YtcbohpmdeboeoaaGreatDoorRRX14
import Derived.Test.YtcbohpmdeboeoaaGreatDoorRRX15
namespace Go.Proofs.YtcbohpmdeboeoaaGreatDoorRR.X
open Go.Proofs.YtcbohpmdeboeoaaGreatDoorRR.Z
open Go.RowKit Go.Proofs.YtcbohpmdeboeoaaGreatDoorRRW.PrintWords Go.Proofs.YtcbohpmdeboeoaaGreatDoorRRW.PrintLast Go.Proofs.YtcbohpmdeboeoaaGreatDoorRRW.PrintMore
open List renaming setIfInBounds_toArray → sA, set_cons_zero → sZ, set_cons_succ → sS
open Aside0 renaming mk → am
open Bool renaming true → tt, false → ff
set_option maxHeartbeats 8000000
set_option maxRecDepth 100000
attribute [local go_sem] max2_int min2_int max_two min_two max_three min_three max_four min_four   -- for this text's walks alone
set_option linter.unusedVariables false
set_option linter.unusedSimpArgs false

/-! ### whetstoneref01_Of: function 31 -/
mutual
def whetstoneref01_Of.j0 : Nat→ByteArray→Bool→Option (List Int×Bool)
 | 0,_,_=>none
 | k + 1,x0,x18=>if x18 = true then(some (([] : List Int),false)) else(if 0≤(x0.size : Int) then(if ((x0.size : Int) : Int).toNat≤281474976710656 then(whetstoneref01_Of.l0 k x0 (List.replicate ((x0.size : Int) : Int).toNat 0) 0) else(none)) else(none))
def whetstoneref01_Of.l0 : Nat→ByteArray→List Int→Int→Option (List Int×Bool)
 | 0,_,_,_=>none
 | k + 1,x0,x4,x5=>if x5 < (x0.size : Int) then(if 0≤x5 then(if (bt x0 x5) < 48 then(some (([] : List Int),false)) else(if (bt x0 x5) > 57 then(some (([] : List Int),false)) else(if 0≤(wrap64 ((wrap64 ((x0.size : Int) - 1)) - x5)) then(if (wrap64 ((wrap64 ((x0.size : Int) - 1)) - x5)) < (x4.length : Int) then(whetstoneref01_Of.l0 k x0 (x4.set ((wrap64 ((wrap64 ((x0.size : Int) - 1)) - x5)) : Int).toNat (((bt x0 x5) - 48) % 256)) (wrap64 (x5 + 1))) else(none)) else(none)))) else(none)) else((whetstoneref01_trim.f k x4).bind fun t706=>((whetstoneref01_write.f k t706).bind fun t709=>(some (t709,true))))
end
def whetstoneref01_Of.f (k : Nat) (a0 : ByteArray) : Option (List Int×Bool):=if (a0.size : Int) = 0 then(whetstoneref01_Of.j0 k a0 true) else(if (a0.size : Int) > 1 then(if 0 < (a0.size : Int) then(whetstoneref01_Of.j0 k a0 ((bt a0 0) == 48)) else(none)) else(whetstoneref01_Of.j0 k a0 false))
theorem whetstoneref01_Of.calls (k : Nat) (a0 : ByteArray) (r1 : List Int) (r2 : Bool) (w : World) (h : whetstoneref01_Of.f k a0 = some (r1,r2)) :
  Calls Tryz.prog 31 #[.string a0] w fun e w'=>∃ v0_ : Value,e = .returned (.tuple #[v0_,.bool r2])∧Kd.R (Kd.int .u32) 60 w' w.heap.size (fun _=>True) v0_ r1∧Below w.heap.size w w':=by
 have HB:=am (Below.refl w.heap.size w)
 have H : (if (a0.size : Int) = 0 then(whetstoneref01_Of.j0 k a0 true) else(if (a0.size : Int) > 1 then(if 0 < (a0.size : Int) then(whetstoneref01_Of.j0 k a0 ((bt a0 0) == 48)) else(none)) else(whetstoneref01_Of.j0 k a0 false))) = some (r1,r2):=h
 clear h
 have HC2:=am H
 clear H
 go_enter Tryz.func31,Tryz.ntmps31
 go_upto_region 1 with(fail)
 go_cut [18] (fun v18 wc=>∃ (kq : Nat) (x18_1 : Bool),v18 = .bool x18_1∧Aside0 (whetstoneref01_Of.j0 kq a0 x18_1 = some (r1,r2))∧Aside0 (kq≤k)∧Aside0 (Below w.heap.size w wc))
 case first=>
  have H:=HC2.out
  clear HC2
  by_cases c3 : (a0.size : Int) = 0
  ·rw [if_pos c3] at H
   have c3b0 : ((a0.size : Int) == 0) = true:=beq_iff_eq.mpr c3
   have c3b1 : ((a0.size : Int) != 0) = false:=bne_eq_false_iff_eq.mpr c3
   clear c3
   (first | rw [c3b0] |(simp only [i64_w,i32_w];rw [c3b0]) | rw [c3b1] | skip)
   have H':=am H
   clear H
   go_wp2
   go_meet
   case rel=>exact⟨_,(true),ze,H',⟨zo⟩,⟨zb⟩⟩
  ·rw [if_neg c3] at H
   have c3b0 : ((a0.size : Int) == 0) = false:=beq_eq_false_iff_ne.mpr c3
   have c3b1 : ((a0.size : Int) != 0) = true:=bne_iff_ne.mpr c3
   (first | rw [c3b0] |(simp only [i64_w,i32_w];rw [c3b0]) | rw [c3b1] | skip)
   by_cases c4 : (a0.size : Int) > 1
   ·rw [if_pos c4] at H
    have c4b0 : decide (1 < (a0.size : Int)) = true:=decide_eq_true c4
    have c4b1 : decide (1 < a0.size) = true:=decide_eq_true (by omega)
    clear c4
    by_cases c5 : 0 < (a0.size : Int)
    ·rw [if_pos c5] at H
     have c5b0 : decide (0 < (a0.size : Int)) = true:=decide_eq_true c5
     have c5b1 : decide (0 < a0.size) = true:=decide_eq_true (by omega)
     clear c5
     have H':=am H
     clear H
     have p6 : 0≤(0 : Int):=(by omega)
     have q6 : 0 < a0.size:=(by have : (0 : Int) < (a0.size : Int):=of_decide_eq_true za;omega)
     have hx6 : ∀ h : 0 < a0.size,((a0[0]'h).toNat : Int) = bt a0 0:=bt_at a0 0
     clear p6
     have qi6 : (0 < (a0.size : Int)) = True:=eq_true (of_decide_eq_true za)
     replace q6:=eq_true q6
     go_wp2
     go_meet
     case rel=>exact⟨_,(((bt a0 0) == 48)),ze,H',⟨zo⟩,⟨zb⟩⟩
    ·rw [if_neg c5] at H
     exact absurd H (by simp)
   ·rw [if_neg c4] at H
    have c4b0 : decide (1 < (a0.size : Int)) = false:=decide_eq_false c4
    have c4b1 : decide (1 < a0.size) = false:=decide_eq_false (by omega)
    clear c4
    have H':=am H
    clear H
    go_wp2
    go_meet
    case rel=>exact⟨_,(false),ze,H',⟨zo⟩,⟨zb⟩⟩
 case rest=>
  clear HC2
  try clear p2
  try clear c3
  try clear c3b0
  try clear c3b1
  try clear c4
  try clear c4b0
  try clear c4b1
  try clear c5
  try clear c5b0
  try clear c5b1
  try clear p6
  try clear q6
  try clear hx6
  try clear qi6
  try clear p6
  try clear q6
  obtain⟨kq,x18_1,rfl,HA,HJ1,HB⟩:=hcut
  cases kq with
  | zero=>exact absurd HA.out (by simp [whetstoneref01_Of.j0])
  | succ kj1=>
   have H:=HA.out
   clear HA
   simp only [whetstoneref01_Of.j0] at H
   by_cases c7 : x18_1 = true
   ·subst c7
    have H1 : (some (([] : List Int),false)) = some (r1,r2):=by rw [if_pos rfl] at H;exact H
    clear H
    have H:=H1
    clear H1
    simp only [Option.some.injEq,Prod.mk.injEq] at H
    obtain⟨rfl,rfl⟩:=H
    go_wp2
    go_ret2
    exact⟨_,zf,by first | exact Kd.R_nil _ _ _ _ _ | exact Kd.N_nil _ _ _ _ _ | exact Kd.V_nil _ _ _ _ _ | exact Kd.Q_nil _ _ _ _ _ | exact Kd.S_nil _ _ _ _ _,zb⟩
   ·replace c7:=Bool.eq_false_iff.mpr c7
    subst c7
    have H1 : (if 0≤(a0.size : Int) then(if ((a0.size : Int) : Int).toNat≤281474976710656 then(whetstoneref01_Of.l0 kj1 a0 (List.replicate ((a0.size : Int) : Int).toNat 0) 0) else(none)) else(none)) = some (r1,r2):=by rw [if_neg (show ¬ (false = true) by decide)] at H;exact H
    clear H
    have H:=H1
    clear H1
    by_cases c8 : 0≤(a0.size : Int)
    ·rw [if_pos c8] at H
     have c8b0:=eq_true c8
     have c8b1 : decide (0≤(a0.size : Int)) = true:=decide_eq_true c8
     clear c8
     by_cases c9 : ((a0.size : Int) : Int).toNat≤281474976710656
     ·rw [if_pos c9] at H
      have c9b0:=eq_true c9
      have c9b1 : decide (((a0.size : Int) : Int).toNat≤281474976710656) = true:=decide_eq_true c9
      clear c9
      obtain⟨y702,hy702⟩ : ∃ y_ : List Int,y_ = (List.replicate ((a0.size : Int) : Int).toNat 0):=⟨_,rfl⟩
      replace H : (whetstoneref01_Of.l0 kj1 a0 y702 0) = some (r1,r2):=by first |(rw [hy702];with_reducible exact H) |(have H2_:=(Option.bind_some _ _).symm.trans H;rw [hy702];with_reducible exact H2_) |(have H2_:=(Option.bind_some _ _).symm.trans H;with_reducible exact H2_) | with_reducible exact H |(rw [hy702];exact H) | exact H
      have Ny702:=am hy702
      clear hy702
      have H':=am H
      clear H
      go_wp2_with (first |((with_reducible refine gate_dst (N:=21) rfl ?_);(try (refine gate_guard (by rfl) ?_;dsimp only));refine Kd.R_make (Kd.int .u8) _ 5 rfl (N:=21) rfl 87 _ _ rfl (a0.size : Int) rfl rfl Tryz.underlying87 (.int .u8 0) 1 info5 rfl (by decide) (by omega) 0 (ok:=fun _=>True) (okp:=fun _=>True) rfl (fun _ hk=>hk) trivial (of_decide_eq_true za) (Nat.le_trans (Nat.mul_le_mul_right _ (of_decide_eq_true za : (a0.size : Int).toNat≤281474976710656)) (by omega)) (Below.refl _ _) (Nat.le_refl _) ?_;intro v703 w10 ho11 hb hg_ hnew_;clear hg_ hnew_;(first | rw [← Ny702.out] at ho11 |(simp only [Int.reduceToNat] at ho11;rw [← Ny702.out] at ho11));have HO704:=am (Kd.R_lower ho11 (below_size zb));replace HB:=am (below_step zb hb);clear hb ho11))
      go_loopg [5] kj1 (fun kq v5 w'=>∃ (x4_2 : List Int) (x5_2 : Int),v5 = .int .i64 x5_2∧Aside0 (whetstoneref01_Of.l0 kq a0 x4_2 x5_2 = some (r1,r2))∧Aside0 (kq≤kj1)∧Aside0 (Kd.R (Kd.int .u8) 5 w' w.heap.size (fun _=>True) v703 x4_2)∧Aside0 (Below w.heap.size w w'))
      case atStart=>exact⟨(y702),(0),ze,H',⟨Nat.le_refl _⟩,⟨zR HO704.out⟩,⟨zb⟩⟩
      case round=>
       clear H'
       try clear p2
       try clear c3
       try clear c3b0
       try clear c3b1
       try clear c4
       try clear c4b0
       try clear c4b1
       try clear c5
       try clear c5b0
       try clear c5b1
       try clear p6
       try clear q6
       try clear hx6
       try clear qi6
       try clear c7
       try clear c8
       try clear c8b0
       try clear c8b1
       try clear c9
       try clear c9b0
       try clear c9b1
       try clear p2
       try clear p6
       try clear q6
       obtain⟨x4_2,x5_2,rfl,HA,HK2,HO_4,HB⟩:=hrel
       cases gk with
       | zero=>exact absurd HA.out (by simp [whetstoneref01_Of.l0])
       | succ k2=>
        have H:=HA.out
        clear HA
        simp only [whetstoneref01_Of.l0] at H
        by_cases c12 : x5_2 < (a0.size : Int)
        ·rw [if_pos c12] at H
         have c12b0 : decide (x5_2 < (a0.size : Int)) = true:=decide_eq_true c12
         clear c12
         by_cases c13 : 0≤x5_2
         ·rw [if_pos c13] at H
          have c13b0 : decide (0≤x5_2) = true:=decide_eq_true c13
          clear c13
          by_cases c15 : (bt a0 x5_2) < 48
          ·rw [if_pos c15] at H
           have c15b0 : decide ((bt a0 x5_2) < 48) = true:=decide_eq_true c15
           clear c15
           simp only [Option.some.injEq,Prod.mk.injEq] at H
           obtain⟨rfl,rfl⟩:=H
           have p14 : 0≤(x5_2 : Int):=of_decide_eq_true za
           have q14 : x5_2 < (a0.size : Int):=of_decide_eq_true za
           have hx14:=bt_at a0 x5_2
           replace p14:=eq_true p14
           replace q14:=eq_true q14
           go_wp2
           go_ret2
           exact⟨_,zf,by first | exact Kd.R_nil _ _ _ _ _ | exact Kd.N_nil _ _ _ _ _ | exact Kd.V_nil _ _ _ _ _ | exact Kd.Q_nil _ _ _ _ _ | exact Kd.S_nil _ _ _ _ _,zb⟩
          ·rw [if_neg c15] at H
           have c15b0 : decide ((bt a0 x5_2) < 48) = false:=decide_eq_false c15
           clear c15
           by_cases c17 : (bt a0 x5_2) > 57
           ·rw [if_pos c17] at H
            have c17b0 : decide (57 < (bt a0 x5_2)) = true:=decide_eq_true c17
            clear c17
            simp only [Option.some.injEq,Prod.mk.injEq] at H
            obtain⟨rfl,rfl⟩:=H
            have p14 : 0≤(x5_2 : Int):=of_decide_eq_true za
            have q14 : x5_2 < (a0.size : Int):=of_decide_eq_true za
            have hx14:=bt_at a0 x5_2
            replace p14:=eq_true p14
            replace q14:=eq_true q14
            have p16 : 0≤(x5_2 : Int):=of_decide_eq_true za
            have q16 : x5_2 < (a0.size : Int):=of_decide_eq_true za
            have hx16:=bt_at a0 x5_2
            replace p16:=eq_true p16
            replace q16:=eq_true q16
            go_wp2
            go_ret2
            exact⟨_,zf,by first | exact Kd.R_nil _ _ _ _ _ | exact Kd.N_nil _ _ _ _ _ | exact Kd.V_nil _ _ _ _ _ | exact Kd.Q_nil _ _ _ _ _ | exact Kd.S_nil _ _ _ _ _,zb⟩
           ·rw [if_neg c17] at H
            have c17b0 : decide (57 < (bt a0 x5_2)) = false:=decide_eq_false c17
            clear c17
            obtain⟨ji19,hji19⟩ : ∃ j_ : Int,(wrap64 ((wrap64 ((a0.size : Int) - 1)) - x5_2)) = j_:=⟨_,rfl⟩
            replace H : (if 0≤(ji19) then(if (ji19) < (x4_2.length : Int) then(whetstoneref01_Of.l0 k2 a0 (x4_2.set ((ji19) : Int).toNat (((bt a0 x5_2) - 48) % 256)) (wrap64 (x5_2 + 1))) else(none)) else(none)) = some (r1,r2):=by first |(rw [hji19] at H;exact H) |(simp only [hji19] at H ⊢;exact H)
            have hji19w : (IntKind.i64.wrap ((wrap64 ((a0.size : Int) - 1)) - x5_2)) = ji19:=(i64_w _).trans hji19
            by_cases c20 : 0≤(ji19)
            ·rw [if_pos c20] at H
             have c20b0 : decide (0≤(ji19)) = true:=decide_eq_true c20
             clear c20
             by_cases c21 : (ji19) < (x4_2.length : Int)
             ·rw [if_pos c21] at H
              have c21b0 : decide ((ji19) < (x4_2.length : Int)) = true:=decide_eq_true c21
              clear c21
              obtain⟨y705,hy705⟩ : ∃ y_ : List Int,y_ = (x4_2.set ((ji19) : Int).toNat (((bt a0 x5_2) - 48) % 256)):=⟨_,rfl⟩
              replace H : (whetstoneref01_Of.l0 k2 a0 y705 (wrap64 (x5_2 + 1))) = some (r1,r2):=by first |(rw [hy705];with_reducible exact H) |(have H2_:=(Option.bind_some _ _).symm.trans H;rw [hy705];with_reducible exact H2_) |(have H2_:=(Option.bind_some _ _).symm.trans H;with_reducible exact H2_) | with_reducible exact H |(rw [hy705];exact H) | exact H
              have Ny705:=am hy705
              clear hy705
              have H':=am H
              clear H
              have p14 : 0≤(x5_2 : Int):=of_decide_eq_true za
              have q14 : x5_2 < (a0.size : Int):=of_decide_eq_true za
              have hx14:=bt_at a0 x5_2
              replace p14:=eq_true p14
              replace q14:=eq_true q14
              have p16 : 0≤(x5_2 : Int):=of_decide_eq_true za
              have q16 : x5_2 < (a0.size : Int):=of_decide_eq_true za
              have hx16:=bt_at a0 x5_2
              replace p16:=eq_true p16
              replace q16:=eq_true q16
              have p18 : 0≤(x5_2 : Int):=of_decide_eq_true za
              have q18 : x5_2 < (a0.size : Int):=of_decide_eq_true za
              have hx18:=bt_at a0 x5_2
              replace p18:=eq_true p18
              replace q18:=eq_true q18
              have p22 : 0≤((ji19) : Int):=of_decide_eq_true za
              have q22 : ((ji19) : Int) < ((x4_2.length : Int) : Int):=of_decide_eq_true za
              obtain⟨go22,co22,eo22,gb22,gl22,cl22,HG22⟩:=Kd.R_form HO_4.out (by omega)
              (first | cases eo22 |(injection eo22 with ea_ en_ ec_;(first | subst ea_ |(injection ea_ with ea_;subst ea_));subst ec_;clear en_))
              have GB22:=am gb22
              have GG22:=am HG22
              clear gb22 gl22 HG22
              obtain⟨hx22_0,hf22_0⟩:=Kd.R_celln 0 HO_4.out ((ji19) : Int) p22 q22
              replace p22:=eq_true p22
              replace q22:=eq_true q22
              have HP23:=Kd.R_putg HO_4.out ((ji19) : Int) (((bt a0 x5_2) - 48) % 256)
              go_wp2_with (first |((with_reducible refine gate_store (t:=5) (p:=48) rfl ?_);refine store_event (t:=5) (p:=48) (v:=?vo_w24) (w1:=(wr.setCell ⟨go22,((ji19) : Int).toNat,none⟩ (.int .u8 (((bt a0 x5_2) - 48) % 256)))) ?hg ?ho ?hn ?hr ?_;(case ho=>rfl);(case hg=>rfl);(case hn=>rfl);(case hr=>exact zh);intro w24 hw;have hg : wr.grownBy w24 (some go22):=(by rw [hw];exact HP23.2);have hp_ : Kd.R (Kd.int .u8) 5 w24 w.heap.size (fun _=>True) (.slice (some ⟨go22,0,none⟩) x4_2.length co22) y705:=(by rw [hw,Ny705.out];exact HP23.1);clear HP23;replace HO_4:=am (hp_);replace HB:=am ((by rw [hw];exact below_set (HB.out) GB22.out : Below w.heap.size w w24));clear hg hw hp_))
              go_roundg k2
              case measure=>have:=HJ1.out;have:=HK2.out;omega
              case rel=>exact⟨(y705),(wrap64 (x5_2 + 1)),ze,H',⟨by have:=HJ1.out;have:=HK2.out;omega⟩,⟨zR HO_4.out⟩,⟨zb⟩⟩
             ·rw [if_neg c21] at H
              exact absurd H (by simp)
            ·rw [if_neg c20] at H
             exact absurd H (by simp)
         ·rw [if_neg c13] at H
          exact absurd H (by simp)
        ·rw [if_neg c12] at H
         have c12b0 : decide (x5_2 < (a0.size : Int)) = false:=decide_eq_false c12
         clear c12
         replace H:=Option.bind_eq_some_iff.mp H
         obtain⟨t706,A250,H⟩:=H
         try dsimp only at H
         have A25:=am A250
         clear A250
         replace H:=Option.bind_eq_some_iff.mp H
         obtain⟨t709,A260,H⟩:=H
         try dsimp only at H
         have A26:=am A260
         clear A260
         simp only [Option.some.injEq,Prod.mk.injEq] at H
         obtain⟨rfl,rfl⟩:=H
         obtain⟨Ao27,co27,eo27⟩:=Kd.R_slice HO_4.out
         subst eo27
         go_wp2_with (first |((with_reducible refine gate_callee (f:=61) rfl ?_);refine goesL_ (some 50) rfl rfl Tryz.func61 (by kernel_rfl) rfl #[.slice Ao27 x4_2.length co27] rfl zl ?_;(with_reducible refine(whetstoneref01_trim.calls k2 (fun k_=>some k_ = (.slice Ao27 x4_2.length co27 : Value).ownBlock) _ _ x4_2 t706 _ ?side1 A25.out).mono ?_);(case side1=>exact Kd.R_V (Kd.R_tight rfl (HO_4.out)));rintro e w28 ⟨v707,rfl,ho0,hb⟩;refine⟨_,rfl,?_⟩;replace HO_4:=rb HO_4 hb;have HO708:=am (Kd.V_lower (Kd.V_mono (ok':=fun k_=>True) ho0 (fun k_ hk_=>trivial)) (below_size zb));replace HB:=am (below_step zb hb);(try clear hb);(try clear ho0);obtain⟨Ao29,co29,eo29⟩:=Kd.V_slice HO708.out;subst eo29) |((with_reducible refine gate_callee (f:=60) rfl ?_);refine goesL_ (some 51) rfl rfl Tryz.func60 (by kernel_rfl) rfl #[.slice Ao29 t706.length co29] rfl zl ?_;(with_reducible refine(whetstoneref01_write.calls k2 _ _ t706 t709 _ ?side1 ?side2 A26.out).mono ?_);(case side1=>exact zC (Kd.V_reads' HO708.out).2.2);(case side2=>exact(Kd.V_reads' HO708.out).2.1);rintro e w30 ⟨v710,rfl,ho0,hb⟩;refine⟨_,rfl,?_⟩;replace HO_4:=rb HO_4 hb;replace HO708:=ve HO708 (Kd.R_base ho0) hb;have HO711:=am (Kd.R_lower ho0 (below_size zb));replace HB:=am (below_step zb hb);(try clear hb);(try clear ho0)))
         go_ret2
         exact⟨_,zf,zR HO711.out,zb⟩
     ·rw [if_neg c9] at H
      exact absurd H (by simp)
    ·rw [if_neg c8] at H
     exact absurd H (by simp)

/-! ### whetstoneref02_Parse: function 8 -/
mutual
def whetstoneref02_Parse.j0 : Nat→ByteArray→Bool→Option (Bool×List Int×Bool)
 | 0,_,_=>none
 | k + 1,x0,x4=>if x4 = true then(if 1≤(x0.size : Int) then(whetstoneref02_Parse.j1 k (x0.extract 1 x0.size) x4) else(none)) else(whetstoneref02_Parse.j1 k x0 x4)
def whetstoneref02_Parse.j1 : Nat→ByteArray→Bool→Option (Bool×List Int×Bool)
 | 0,_,_=>none
 | k + 1,x0,x4=>(whetstoneref01_Of.f k x0).bind fun bt713=>(if bt713.2 = true then(if x4 = true then(whetstoneref02_Parse.j2 k x4 bt713.1 ((bt713.1.length : Int) == 0)) else(whetstoneref02_Parse.j2 k x4 bt713.1 false)) else(whetstoneref02_Parse.j2 k x4 bt713.1 true))
def whetstoneref02_Parse.j2 : Nat→Bool→List Int→Bool→Option (Bool×List Int×Bool)
 | 0,_,_,_=>none
 | k + 1,x4,x5,x32=>if x32 = true then((whetstoneref02_Of.f k 0).bind fun bt717=>(some (bt717.1,bt717.2,false))) else((whetstoneref02_of.f k x4 x5).bind fun bt721=>(some (bt721.1,bt721.2,true)))
end
def whetstoneref02_Parse.f (k : Nat) (a0 : ByteArray) : Option (Bool×List Int×Bool):=if (a0.size : Int) > 0 then(if 0 < (a0.size : Int) then(whetstoneref02_Parse.j0 k a0 ((bt a0 0) == 45)) else(none)) else(whetstoneref02_Parse.j0 k a0 false)
theorem whetstoneref02_Parse.calls (k : Nat) (a0 : ByteArray) (r1 : Bool) (r2 : List Int) (r3 : Bool) (w : World) (h : whetstoneref02_Parse.f k a0 = some (r1,r2,r3)) :
  Calls Tryz.prog 8 #[.string a0] w fun e w'=>∃ v1_ : Value,e = .returned (.tuple #[.agg #[.bool r1,v1_],.bool r3])∧Kd.R (Kd.int .u32) 60 w' w.heap.size (fun _=>True) v1_ r2∧Below w.heap.size w w':=by
 have hu25:=Tryz.underlying25
 have HB:=am (Below.refl w.heap.size w)
 have H : (if (a0.size : Int) > 0 then(if 0 < (a0.size : Int) then(whetstoneref02_Parse.j0 k a0 ((bt a0 0) == 45)) else(none)) else(whetstoneref02_Parse.j0 k a0 false)) = some (r1,r2,r3):=h
 clear h
 have HC2:=am H
 clear H
 go_enter Tryz.func8,Tryz.ntmps8
 go_upto_region 1 with(first |((with_reducible refine gate_dst (N:=2) rfl ?_);(try (refine gate_guard (by rfl) ?_;dsimp only));refine box_event ?hg (N:=2) ?hd (cs:=#[.bool false,.slice none 0 0]) (t:=25) ?hr ?_;(case hd=>rfl);(case hg=>rfl);(case hr=>exact zh);intro gb712 hg w3 hbox hb;have BK712:=am (hbox);have GW712:=gw w hg;have GE712:=gw w hg;replace HB:=am (below_step zb hb);clear hb hbox hg))
 (try simp only [Act.put,sA,sZ,sS])
 go_cut [4] (fun v4 wc=>∃ (kq : Nat) (x4_1 : Bool),v4 = .bool x4_1∧Aside0 (whetstoneref02_Parse.j0 kq a0 x4_1 = some (r1,r2,r3))∧Aside0 (kq≤k)∧Aside0 (wc.heap[gb712]? = some (.cells #[.bool false,(.slice none 0 0)] 25 (0,0)))∧Aside0 (Below w.heap.size w wc))
 case first=>
  have H:=HC2.out
  clear HC2
  by_cases c4 : (a0.size : Int) > 0
  ·rw [if_pos c4] at H
   have c4b0 : decide (0 < (a0.size : Int)) = true:=decide_eq_true c4
   have c4b1 : decide (0 < a0.size) = true:=decide_eq_true (by omega)
   clear c4
   (first | rw [c4b0] |(simp only [i64_w,i32_w];rw [c4b0]) | rw [c4b1] | skip)
   by_cases c5 : 0 < (a0.size : Int)
   ·rw [if_pos c5] at H
    have c5b0 : decide (0 < (a0.size : Int)) = true:=decide_eq_true c5
    have c5b1 : decide (0 < a0.size) = true:=decide_eq_true (by omega)
    clear c5
    have H':=am H
    clear H
    have p6 : 0≤(0 : Int):=(by omega)
    have q6 : 0 < a0.size:=(by have : (0 : Int) < (a0.size : Int):=of_decide_eq_true za;omega)
    have hx6 : ∀ h : 0 < a0.size,((a0[0]'h).toNat : Int) = bt a0 0:=bt_at a0 0
    clear p6
    have qi6 : (0 < (a0.size : Int)) = True:=eq_true (of_decide_eq_true za)
    replace q6:=eq_true q6
    go_wp2
    go_meet
    case rel=>exact⟨_,(((bt a0 0) == 45)),ze,H',⟨zo⟩,⟨zk BK712.out⟩,⟨zb⟩⟩
   ·rw [if_neg c5] at H
    exact absurd H (by simp)
  ·rw [if_neg c4] at H
   have c4b0 : decide (0 < (a0.size : Int)) = false:=decide_eq_false c4
   have c4b1 : decide (0 < a0.size) = false:=decide_eq_false (by omega)
   clear c4
   (first | rw [c4b0] |(simp only [i64_w,i32_w];rw [c4b0]) | rw [c4b1] | skip)
   have H':=am H
   clear H
   go_wp2
   go_meet
   case rel=>exact⟨_,(false),ze,H',⟨zo⟩,⟨zk BK712.out⟩,⟨zb⟩⟩
 case rest=>
  clear HC2
  try clear p2
  try clear c4
  try clear c4b0
  try clear c4b1
  try clear c5
  try clear c5b0
  try clear c5b1
  try clear p6
  try clear q6
  try clear hx6
  try clear qi6
  try clear p6
  try clear q6
  obtain⟨kq,x4_1,rfl,HA,HJ1,BK712,HB⟩:=hcut
  cases kq with
  | zero=>exact absurd HA.out (by simp [whetstoneref02_Parse.j0])
  | succ kj1=>
   have H:=HA.out
   clear HA
   simp only [whetstoneref02_Parse.j0] at H
   have HC7:=am H
   clear H
   go_upto_if 15 with(fail)
   go_cut [0] (fun v0 wc=>∃ (kq : Nat) (x0_6 : ByteArray),v0 = .string x0_6∧Aside0 (whetstoneref02_Parse.j1 kq x0_6 x4_1 = some (r1,r2,r3))∧Aside0 (kq≤kj1)∧Aside0 (wc.heap[gb712]? = some (.cells #[.bool false,(.slice none 0 0)] 25 (0,0)))∧Aside0 (Below w.heap.size w wc))
   case first=>
    have H:=HC7.out
    clear HC7
    by_cases c8 : x4_1 = true
    ·subst c8
     have H1 : (if 1≤(a0.size : Int) then(whetstoneref02_Parse.j1 kj1 (a0.extract 1 a0.size) true) else(none)) = some (r1,r2,r3):=by rw [if_pos rfl] at H;exact H
     clear H
     have H:=H1
     clear H1
     by_cases c9 : 1≤(a0.size : Int)
     ·rw [if_pos c9] at H
      have c9b0:=eq_true c9
      have c9b1 : decide (1≤(a0.size : Int)) = true:=decide_eq_true c9
      clear c9
      have H':=am H
      clear H
      go_wp2
      go_meet
      case rel=>exact⟨_,(a0.extract 1 a0.size),ze,H',⟨by have:=HJ1.out;first | omega | exact Nat.le_refl _⟩,⟨zk BK712.out⟩,⟨zb⟩⟩
     ·rw [if_neg c9] at H
      exact absurd H (by simp)
    ·replace c8:=Bool.eq_false_iff.mpr c8
     subst c8
     have H1 : (whetstoneref02_Parse.j1 kj1 a0 false) = some (r1,r2,r3):=by rw [if_neg (show ¬ (false = true) by decide)] at H;exact H
     clear H
     have H:=H1
     clear H1
     have H':=am H
     clear H
     go_wp2
     go_meet
     case rel=>exact⟨_,(a0),ze,H',⟨by have:=HJ1.out;first | omega | exact Nat.le_refl _⟩,⟨zk BK712.out⟩,⟨zb⟩⟩
   case rest=>
    clear HC7
    try clear p2
    try clear c4
    try clear c4b0
    try clear c4b1
    try clear c5
    try clear c5b0
    try clear c5b1
    try clear p6
    try clear q6
    try clear hx6
    try clear qi6
    try clear c8
    try clear c9
    try clear c9b0
    try clear c9b1
    try clear p2
    try clear p6
    try clear q6
    obtain⟨kq,x0_6,rfl,HA,HJ6,BK712,HB⟩:=hcut
    cases kq with
    | zero=>exact absurd HA.out (by simp [whetstoneref02_Parse.j1])
    | succ kj6=>
     have H:=HA.out
     clear HA
     simp only [whetstoneref02_Parse.j1] at H
     replace H:=Option.bind_eq_some_iff.mp H
     obtain⟨⟨t713,t714⟩,A100,H⟩:=H
     try dsimp only at H
     have A10:=am A100
     clear A100
     have HC11:=am H
     clear H
     go_upto_region 5 with(first |((with_reducible refine gate_callee (f:=31) rfl ?_);refine goesL_ (some 20) rfl rfl Tryz.func31 (by kernel_rfl) rfl #[.string x0_6] rfl zl ?_;(with_reducible refine(whetstoneref01_Of.calls kj6 x0_6 t713 t714 _ A10.out).mono ?_);rintro e w12 ⟨v715,rfl,ho0,hb⟩;refine⟨_,rfl,?_⟩;have HO716:=am (Kd.R_lower ho0 (below_size zb));replace BK712:=kb BK712 hb;replace HB:=am (below_step zb hb);(try clear hb);(try clear ho0)))
     (try simp only [Act.put,sA,sZ,sS])
     go_cut [32] (fun v32 wc=>∃ (kq : Nat) (x32_10 : Bool),v32 = .bool x32_10∧Aside0 (whetstoneref02_Parse.j2 kq x4_1 t713 x32_10 = some (r1,r2,r3))∧Aside0 (kq≤kj6)∧Aside0 (Kd.R (Kd.int .u32) 60 wc w.heap.size (fun _=>True) v715 t713)∧Aside0 (wc.heap[gb712]? = some (.cells #[.bool false,(.slice none 0 0)] 25 (0,0)))∧Aside0 (Below w.heap.size w wc))
     case first=>
      have H:=HC11.out
      clear HC11
      by_cases c13 : t714 = true
      ·subst c13
       have H1 : (if x4_1 = true then(whetstoneref02_Parse.j2 kj6 x4_1 t713 ((t713.length : Int) == 0)) else(whetstoneref02_Parse.j2 kj6 x4_1 t713 false)) = some (r1,r2,r3):=by rw [if_pos rfl] at H;exact H
       clear H
       have H:=H1
       clear H1
       by_cases c14 : x4_1 = true
       ·subst c14
        have H1 : (whetstoneref02_Parse.j2 kj6 true t713 ((t713.length : Int) == 0)) = some (r1,r2,r3):=by rw [if_pos rfl] at H;exact H
        clear H
        have H:=H1
        clear H1
        have H':=am H
        clear H
        obtain⟨Ao15,co15,eo15⟩:=Kd.R_slice HO716.out
        subst eo15
        go_wp2
        go_meet
        case rel=>exact⟨_,(((t713.length : Int) == 0)),ze,H',⟨by have:=HJ1.out;have:=HJ6.out;first | omega | exact Nat.le_refl _⟩,⟨zR HO716.out⟩,⟨zk BK712.out⟩,⟨zb⟩⟩
       ·replace c14:=Bool.eq_false_iff.mpr c14
        subst c14
        have H1 : (whetstoneref02_Parse.j2 kj6 false t713 false) = some (r1,r2,r3):=by rw [if_neg (show ¬ (false = true) by decide)] at H;exact H
        clear H
        have H:=H1
        clear H1
        have H':=am H
        clear H
        go_wp2
        go_meet
        case rel=>exact⟨_,(false),ze,H',⟨by have:=HJ1.out;have:=HJ6.out;first | omega | exact Nat.le_refl _⟩,⟨zR HO716.out⟩,⟨zk BK712.out⟩,⟨zb⟩⟩
      ·replace c13:=Bool.eq_false_iff.mpr c13
       subst c13
       have H1 : (whetstoneref02_Parse.j2 kj6 x4_1 t713 true) = some (r1,r2,r3):=by rw [if_neg (show ¬ (false = true) by decide)] at H;exact H
       clear H
       have H:=H1
       clear H1
       have H':=am H
       clear H
       go_wp2
       go_meet
       case rel=>exact⟨_,(true),ze,H',⟨by have:=HJ1.out;have:=HJ6.out;first | omega | exact Nat.le_refl _⟩,⟨zR HO716.out⟩,⟨zk BK712.out⟩,⟨zb⟩⟩
     case rest=>
      clear HC11
      try clear c1
      try clear p2
      try clear c3
      try clear c4
      try clear c4b0
      try clear c4b1
      try clear c5
      try clear c5b0
      try clear c5b1
      try clear p6
      try clear q6
      try clear hx6
      try clear qi6
      try clear c8
      try clear c9
      try clear c9b0
      try clear c9b1
      try clear c13
      try clear c14
      try clear p2
      try clear p6
      try clear q6
      obtain⟨kq,x32_10,rfl,HA,HJ10,HO_5,BK712,HB⟩:=hcut
      cases kq with
      | zero=>exact absurd HA.out (by simp [whetstoneref02_Parse.j2])
      | succ kj10=>
       have H:=HA.out
       clear HA
       simp only [whetstoneref02_Parse.j2] at H
       by_cases c16 : x32_10 = true
       ·subst c16
        have H1 : ((whetstoneref02_Of.f kj10 0).bind fun bt717=>(some (bt717.1,bt717.2,false))) = some (r1,r2,r3):=by rw [if_pos rfl] at H;exact H
        clear H
        have H:=H1
        clear H1
        replace H:=Option.bind_eq_some_iff.mp H
        obtain⟨⟨t717,t718⟩,A170,H⟩:=H
        try dsimp only at H
        have A17:=am A170
        clear A170
        simp only [Option.some.injEq,Prod.mk.injEq] at H
        obtain⟨rfl,rfl,rfl⟩:=H
        go_wp2_with (first |((with_reducible refine gate_callee (f:=11) rfl ?_);refine goesL_ (some 33) rfl rfl Tryz.func11 (by kernel_rfl) rfl #[.int .i64 0] rfl zl ?_;(with_reducible refine(whetstoneref02_Of.calls kj10 0 t717 t718 _ A17.out).mono ?_);rintro e w18 ⟨v719,rfl,ho0,hb⟩;refine⟨_,rfl,?_⟩;have HO720:=am (Kd.R_lower (Kd.R_new' ho0 (Kd.R_lt (zR HO_5.out))) (below_size zb));replace HO_5:=re HO_5 (Kd.R_base ho0) hb;replace BK712:=kb BK712 hb;replace HB:=am (below_step zb hb);(try clear hb);(try clear ho0);have hcz19_0 : w18.cell? ⟨gb712,0,none⟩ = some (.bool false):=(blk_cell BK712.out 0).trans rfl;have hcz19_1 : w18.cell? ⟨gb712,1,none⟩ = some (.slice none 0 0):=(blk_cell BK712.out 1).trans rfl;have hfz19_0:=blk_frozen BK712.out 0;have hfz19_1:=blk_frozen BK712.out 1;obtain⟨Ao20,co20,eo20⟩:=Kd.R_slice HO720.out;subst eo20))
        refine bodyPost_ret (results_ct rfl _ _ gb712 25 #[.bool t717,.slice Ao20 t718.length co20] (0,0) _ rfl (by refine zk ?_;refine blk_put (cs:=#[.bool t717,.slice none 0 0]) ?_ 1 _ rfl;refine zk ?_;refine blk_put (cs:=#[.bool false,.slice none 0 0]) ?_ 0 _ rfl;refine zk ?_;exact BK712.out) Tryz.underlying25 rfl (by kernel_rfl)) rfl ?_
        exact⟨_,zf,by refine zR ?_;exact Kd.R_mono (Kd.R_far (p:=⟨gb712,1,none⟩) (Kd.R_far (p:=⟨gb712,0,none⟩) (Kd.R_types HO720.out BK712.out (by decide)) (fun _ hk=>hk.2) (.bool t717)) (fun _ hk=>hk.2) (.slice Ao20 t718.length co20)) (fun _ hk=>trivial),zb⟩
       ·replace c16:=Bool.eq_false_iff.mpr c16
        subst c16
        have H1 : ((whetstoneref02_of.f kj10 x4_1 t713).bind fun bt721=>(some (bt721.1,bt721.2,true))) = some (r1,r2,r3):=by rw [if_neg (show ¬ (false = true) by decide)] at H;exact H
        clear H
        have H:=H1
        clear H1
        replace H:=Option.bind_eq_some_iff.mp H
        obtain⟨⟨t721,t722⟩,A210,H⟩:=H
        try dsimp only at H
        have A21:=am A210
        clear A210
        simp only [Option.some.injEq,Prod.mk.injEq] at H
        obtain⟨rfl,rfl,rfl⟩:=H
        obtain⟨Ao22,co22,eo22⟩:=Kd.R_slice HO_5.out
        subst eo22
        go_wp2_with (first |((with_reducible refine gate_callee (f:=32) rfl ?_);refine goesL_ (some 36) rfl rfl Tryz.func32 (by kernel_rfl) rfl #[.bool x4_1,.slice Ao22 t713.length co22] rfl zl ?_;(with_reducible refine(whetstoneref02_of.calls kj10 x4_1 _ _ t713 t721 t722 _ ?side1 ?side2 A21.out).mono ?_);(case side1=>exact zC (Kd.R_reads' HO_5.out).2.2);(case side2=>exact(Kd.R_reads' HO_5.out).2.1);rintro e w23 ⟨v723,rfl,ho0,hb⟩;refine⟨_,rfl,?_⟩;have HO724:=am (Kd.R_lower (Kd.R_new' ho0 (Kd.R_lt (zR HO_5.out))) (below_size zb));replace HO_5:=re HO_5 (Kd.R_base ho0) hb;replace BK712:=kb BK712 hb;replace HB:=am (below_step zb hb);(try clear hb);(try clear ho0);have hcz24_0 : w23.cell? ⟨gb712,0,none⟩ = some (.bool false):=(blk_cell BK712.out 0).trans rfl;have hcz24_1 : w23.cell? ⟨gb712,1,none⟩ = some (.slice none 0 0):=(blk_cell BK712.out 1).trans rfl;have hfz24_0:=blk_frozen BK712.out 0;have hfz24_1:=blk_frozen BK712.out 1;obtain⟨Ao25,co25,eo25⟩:=Kd.R_slice HO724.out;subst eo25))
        refine bodyPost_ret (results_ct rfl _ _ gb712 25 #[.bool t721,.slice Ao25 t722.length co25] (0,0) _ rfl (by refine zk ?_;refine blk_put (cs:=#[.bool t721,.slice none 0 0]) ?_ 1 _ rfl;refine zk ?_;refine blk_put (cs:=#[.bool false,.slice none 0 0]) ?_ 0 _ rfl;refine zk ?_;exact BK712.out) Tryz.underlying25 rfl (by kernel_rfl)) rfl ?_
        exact⟨_,zf,by refine zR ?_;exact Kd.R_mono (Kd.R_far (p:=⟨gb712,1,none⟩) (Kd.R_far (p:=⟨gb712,0,none⟩) (Kd.R_types HO724.out BK712.out (by decide)) (fun _ hk=>hk.2) (.bool t721)) (fun _ hk=>hk.2) (.slice Ao25 t722.length co25)) (fun _ hk=>trivial),zb⟩

/-! ### whetstonelaw02_NumTexts: function 3 -/
def whetstonelaw02_NumTexts.f (k : Nat) (a0 : ByteArray) (a1 : Int) : Option (Bool):=if (a0.size : Int) > 4000 then((whetstonelaw02_awake.f k).bind fun t725=>(some t725)) else((num_Parse.f k a0).bind fun bt726=>((whetstoneref02_Parse.f k a0).bind fun bt732=>(if (bt726.2.2 == bt732.2.2) = true then((whetstonelaw02_same.f k bt726.1 bt726.2.1 bt732.1 bt732.2.1).bind fun t738=>(if t738 = true then((num_Of.f k a1).bind fun bt739=>((whetstoneref02_Of.f k a1).bind fun bt743=>((whetstonelaw02_same.f k bt739.1 bt739.2 bt743.1 bt743.2).bind fun t747=>(if t747 = true then((whetstonelaw02_awake.f k).bind fun t748=>(some t748)) else(some false))))) else(some false))) else(some false))))
theorem whetstonelaw02_NumTexts.calls (k : Nat) (a0 : ByteArray) (a1 : Int) (r : Bool) (w : World) (hr : r = true) (hG : GW w) (h : whetstonelaw02_NumTexts.f k a0 a1 = some r) :
  Calls Tryz.prog 3 #[.string a0,.int .i64 a1] w fun e w'=>e = .returned (.bool r)∧Below w.heap.size w w':=by
 have hu25:=Tryz.underlying25
 have HRT:=am hr
 clear hr
 have HG:=am hG
 clear hG
 have HB:=am (Below.refl w.heap.size w)
 have H : (if (a0.size : Int) > 4000 then((whetstonelaw02_awake.f k).bind fun t725=>(some t725)) else((num_Parse.f k a0).bind fun bt726=>((whetstoneref02_Parse.f k a0).bind fun bt732=>(if (bt726.2.2 == bt732.2.2) = true then((whetstonelaw02_same.f k bt726.1 bt726.2.1 bt732.1 bt732.2.1).bind fun t738=>(if t738 = true then((num_Of.f k a1).bind fun bt739=>((whetstoneref02_Of.f k a1).bind fun bt743=>((whetstonelaw02_same.f k bt739.1 bt739.2 bt743.1 bt743.2).bind fun t747=>(if t747 = true then((whetstonelaw02_awake.f k).bind fun t748=>(some t748)) else(some false))))) else(some false))) else(some false))))) = some r:=h
 clear h
 by_cases c3 : (a0.size : Int) > 4000
 ·rw [if_pos c3] at H
  have c3b0 : decide (4000 < (a0.size : Int)) = true:=decide_eq_true c3
  have c3b1 : decide (4000 < a0.size) = true:=decide_eq_true (by omega)
  clear c3
  replace H:=Option.bind_eq_some_iff.mp H
  obtain⟨t725,A40,H⟩:=H
  try dsimp only at H
  have A4:=am A40
  clear A40
  obtain rfl:=Option.some.inj H
  go_enter Tryz.func3,Tryz.ntmps3
  go_wp2_with (first |((with_reducible refine gate_callee (f:=6) rfl ?_);refine goesL_ (some 12) rfl rfl Tryz.func6 (by kernel_rfl) rfl #[] rfl zl ?_;(with_reducible refine(whetstonelaw02_awake.calls k  t725 _ ?side1 ?side2 A4.out).mono ?_);(case side1=>first | rfl | exact HRT.out |(first | subst_vars | skip;simp_all));(case side2=>exact GW.below HG.out zb);rintro e w5 ⟨rfl,hb⟩;refine⟨_,rfl,?_⟩;replace HB:=am (below_step zb hb);(try clear hb);skip))
  go_ret
  exact⟨zf,zb⟩
 ·rw [if_neg c3] at H
  have c3b0 : decide (4000 < (a0.size : Int)) = false:=decide_eq_false c3
  have c3b1 : decide (4000 < a0.size) = false:=decide_eq_false (by omega)
  clear c3
  replace H:=Option.bind_eq_some_iff.mp H
  obtain⟨⟨t726,t727,t730⟩,A60,H⟩:=H
  try dsimp only at H
  have A6:=am A60
  clear A60
  replace H:=Option.bind_eq_some_iff.mp H
  obtain⟨⟨t732,t733,t736⟩,A70,H⟩:=H
  try dsimp only at H
  have A7:=am A70
  clear A70
  by_cases c8 : (t730 == t736) = true
  ·rw [if_pos c8] at H
   have c8b0 : (t730 == t736) = true:=c8
   (try (have c8b1 : decide (t730 = t736) = true:=by simpa using c8))
   (try (have c8b2 : (t730 == t736) = true:=by simpa using c8))
   clear c8
   replace H:=Option.bind_eq_some_iff.mp H
   obtain⟨t738,A90,H⟩:=H
   try dsimp only at H
   have A9:=am A90
   clear A90
   by_cases c10 : t738 = true
   ·subst c10
    have H1 : ((num_Of.f k a1).bind fun bt739=>((whetstoneref02_Of.f k a1).bind fun bt743=>((whetstonelaw02_same.f k bt739.1 bt739.2 bt743.1 bt743.2).bind fun t747=>(if t747 = true then((whetstonelaw02_awake.f k).bind fun t748=>(some t748)) else(some false))))) = some r:=by rw [if_pos rfl] at H;exact H
    clear H
    have H:=H1
    clear H1
    replace H:=Option.bind_eq_some_iff.mp H
    obtain⟨⟨t739,t740⟩,A110,H⟩:=H
    try dsimp only at H
    have A11:=am A110
    clear A110
    replace H:=Option.bind_eq_some_iff.mp H
    obtain⟨⟨t743,t744⟩,A120,H⟩:=H
    try dsimp only at H
    have A12:=am A120
    clear A120
    replace H:=Option.bind_eq_some_iff.mp H
    obtain⟨t747,A130,H⟩:=H
    try dsimp only at H
    have A13:=am A130
    clear A130
    by_cases c14 : t747 = true
    ·subst c14
     have H1 : ((whetstonelaw02_awake.f k).bind fun t748=>(some t748)) = some r:=by rw [if_pos rfl] at H;exact H
     clear H
     have H:=H1
     clear H1
     replace H:=Option.bind_eq_some_iff.mp H
     obtain⟨t748,A150,H⟩:=H
     try dsimp only at H
     have A15:=am A150
     clear A150
     obtain rfl:=Option.some.inj H
     go_enter Tryz.func3,Tryz.ntmps3
     go_wp2_with (first |((with_reducible refine gate_callee (f:=7) rfl ?_);refine goesL_ (some 15) rfl rfl Tryz.func7 (by kernel_rfl) rfl #[.string a0] rfl zl ?_;(with_reducible refine(num_Parse.calls k a0 t726 t727 t730 _ A6.out).mono ?_);rintro e w16 ⟨v728,rfl,ho0,hb⟩;refine⟨_,rfl,?_⟩;have HO729:=am (Kd.V_lower (Kd.V_mono (ok':=fun k_=>True) ho0 (fun k_ hk_=>trivial)) (below_size zb));replace HB:=am (below_step zb hb);(try clear hb);(try clear ho0)) |((with_reducible refine gate_dst (N:=5) rfl ?_);refine box_event ?hg (N:=5) ?hd (cs:=#[.bool false,.slice none 0 0]) (t:=25) ?hr ?_;(case hd=>rfl);(case hg=>rfl);(case hr=>exact zh);intro gb731 hg w17 hbox hb;replace HO729:=vB gb731 HO729 hg hb;have BK731:=am (hbox);have GW731:=gw w hg;have GE731:=gw w hg;replace HB:=am (below_step zb hb);clear hb hbox hg;have hcz18_0 : w17.cell? ⟨gb731,0,none⟩ = some (.bool false):=(blk_cell BK731.out 0).trans rfl;have hcz18_1 : w17.cell? ⟨gb731,1,none⟩ = some (.slice none 0 0):=(blk_cell BK731.out 1).trans rfl;have hfz18_0:=blk_frozen BK731.out 0;have hfz18_1:=blk_frozen BK731.out 1;obtain⟨Ao19,co19,eo19⟩:=Kd.V_slice HO729.out;subst eo19) |((with_reducible refine gate_callee (f:=8) rfl ?_);refine goesL_ (some 20) rfl rfl Tryz.func8 (by kernel_rfl) rfl #[.string a0] rfl zl ?_;(with_reducible refine(whetstoneref02_Parse.calls k a0 t732 t733 t736 _ A7.out).mono ?_);rintro e w20 ⟨v734,rfl,ho0,hb⟩;refine⟨_,rfl,?_⟩;replace HO729:=am (Kd.V_elder' (by refine zV ?_;exact(Kd.V_mono (Kd.V_far (p:=⟨gb731,1,none⟩) (Kd.V_far (p:=⟨gb731,0,none⟩) (Kd.V_mono HO729.out (fun k_ hk=>(⟨hk,hk.2⟩ : _∧k_≠gb731))) (fun _ hk=>hk.2) (.bool t726)) (fun _ hk=>hk.2) (.slice Ao19 t727.length co19)) (fun _ h_=>h_.1))) (Kd.R_base ho0) hb);have HO735:=am (Kd.R_lower ho0 (below_size zb));replace BK731:=am (blk_below (g:=gb731) (o:=.cells #[.bool t726,.slice Ao19 t727.length co19] 25 (0,0)) (by refine zk ?_;refine blk_put (cs:=#[.bool t726,.slice none 0 0]) ?_ 1 _ rfl;refine zk ?_;refine blk_put (cs:=#[.bool false,.slice none 0 0]) ?_ 0 _ rfl;refine zk ?_;exact BK731.out) hb);replace HB:=am (below_step zb hb);(try clear hb);(try clear ho0)) |((with_reducible refine gate_dst (N:=7) rfl ?_);refine box_event ?hg (N:=7) ?hd (cs:=#[.bool false,.slice none 0 0]) (t:=25) ?hr ?_;(case hd=>rfl);(case hg=>rfl);(case hr=>exact zh);intro gb737 hg w21 hbox hb;replace HO729:=vB gb737 HO729 hg hb;replace HO735:=rb HO735 hb;have BK737:=am (hbox);have GW737:=gw w hg;have GE737:=gw w hg;replace HB:=am (below_step zb hb);have NB731_737:=nl BK731 hg;have NB737_731:=nr BK731 hg;replace BK731:=kb BK731 hb;clear hb hbox hg;have hnb22:=NB737_731.out;have hnc22:=NB731_737.out;have hcz23_0 : w21.cell? ⟨gb737,0,none⟩ = some (.bool false):=(blk_cell BK737.out 0).trans rfl;have hcz23_1 : w21.cell? ⟨gb737,1,none⟩ = some (.slice none 0 0):=(blk_cell BK737.out 1).trans rfl;have hfz23_0:=blk_frozen BK737.out 0;have hfz23_1:=blk_frozen BK737.out 1;obtain⟨Ao24,co24,eo24⟩:=Kd.R_slice HO735.out;subst eo24;have hcz25_0 : w21.cell? ⟨gb731,0,none⟩ = some (.bool t726):=(blk_cell BK731.out 0).trans rfl;have hcz25_1 : w21.cell? ⟨gb731,1,none⟩ = some (.slice Ao19 t727.length co19):=(blk_cell BK731.out 1).trans rfl;have hfz25_0:=blk_frozen BK731.out 0;have hfz25_1:=blk_frozen BK731.out 1) |(go_at_call 9;(with_reducible refine(whetstonelaw02_same.calls k t726 _ _ t727 t732 _ _ t733 true _ ?side1 ?side2 ?side3 ?side4 A9.out).mono ?_);(case side1=>refine(Kd.V_reads' (e:=60) (base:=w.heap.size) (ok:=fun k_=>(((True∧k_≠gb731)∧some k_≠(.slice Ao24 t733.length co24 : Value).ownBlock)∧k_≠gb737)) (n:=t727.length) (c:=co19) ?_).2.2;exact(by refine zV ?_;exact(Kd.V_mono (Kd.V_far (p:=⟨gb737,1,none⟩) (Kd.V_far (p:=⟨gb737,0,none⟩) (Kd.V_mono HO729.out (fun k_ hk=>(⟨hk,hk.2⟩ : _∧k_≠gb737))) (fun _ hk=>hk.2) (.bool t732)) (fun _ hk=>hk.2) (.slice Ao24 t733.length co24)) (fun _ h_=>h_.1))));(case side2=>exact(Kd.V_reads' HO729.out).2.1);(case side3=>refine(Kd.R_reads' (e:=60) (base:=w.heap.size) (ok:=fun k_=>True) (n:=t733.length) (c:=co24) ?_).2.2;exact(by refine zR ?_;exact(Kd.R_mono (Kd.R_far (p:=⟨gb737,1,none⟩) (Kd.R_far (p:=⟨gb737,0,none⟩) (Kd.R_types HO735.out BK737.out (by decide)) (fun _ hk=>hk.2) (.bool t732)) (fun _ hk=>hk.2) (.slice Ao24 t733.length co24)) (fun _ h_=>h_.1))));(case side4=>exact(Kd.R_reads' HO735.out).2.1);rintro e w26 ⟨rfl,hb⟩;replace HO729:=am (Kd.V_below (by refine zV ?_;exact(Kd.V_mono (Kd.V_far (p:=⟨gb737,1,none⟩) (Kd.V_far (p:=⟨gb737,0,none⟩) (Kd.V_mono HO729.out (fun k_ hk=>(⟨hk,hk.2⟩ : _∧k_≠gb737))) (fun _ hk=>hk.2) (.bool t732)) (fun _ hk=>hk.2) (.slice Ao24 t733.length co24)) (fun _ h_=>h_.1))) hb);replace HO735:=am (Kd.R_below (by refine zR ?_;exact(Kd.R_mono (Kd.R_far (p:=⟨gb737,1,none⟩) (Kd.R_far (p:=⟨gb737,0,none⟩) (Kd.R_types HO735.out BK737.out (by decide)) (fun _ hk=>hk.2) (.bool t732)) (fun _ hk=>hk.2) (.slice Ao24 t733.length co24)) (fun _ h_=>h_.1))) hb);replace BK731:=am (blk_below (g:=gb731) (o:=.cells #[.bool t726,.slice Ao19 t727.length co19] 25 (0,0)) (by refine zk ?_;refine blk_far ?_ NB731_737.out _;refine zk ?_;refine blk_far ?_ NB731_737.out _;refine zk ?_;exact BK731.out) hb);replace BK737:=am (blk_below (g:=gb737) (o:=.cells #[.bool t732,.slice Ao24 t733.length co24] 25 (0,0)) (by refine zk ?_;refine blk_put (cs:=#[.bool t732,.slice none 0 0]) ?_ 1 _ rfl;refine zk ?_;refine blk_put (cs:=#[.bool false,.slice none 0 0]) ?_ 0 _ rfl;refine zk ?_;exact BK737.out) hb);replace HB:=am (below_step zb hb);(try clear hb);clear HO729 HO735) |(go_at_call 10;(with_reducible refine(num_Of.calls k a1 t739 t740 _ A11.out).mono ?_);rintro e w27 ⟨v741,rfl,ho0,hb⟩;have HO742:=am (Kd.V_lower (Kd.V_mono (ok':=fun k_=>k_≠gb731∧k_≠gb737) ho0 (fun k_ hk_=>⟨(fb BK731 k_ hk_),(fb BK737 k_ hk_)⟩)) (below_size zb));replace BK731:=kb BK731 hb;replace BK737:=kb BK737 hb;replace HB:=am (below_step zb hb);(try clear hb);(try clear ho0)) |(go_at_call 11;(with_reducible refine(whetstoneref02_Of.calls k a1 t743 t744 _ A12.out).mono ?_);rintro e w28 ⟨v745,rfl,ho0,hb⟩;replace HO742:=ve HO742 (Kd.R_base ho0) hb;have HO746:=am (Kd.R_lower ho0 (below_size zb));replace BK731:=kb BK731 hb;replace BK737:=kb BK737 hb;replace HB:=am (below_step zb hb);(try clear hb);(try clear ho0);obtain⟨Ao29,co29,eo29⟩:=Kd.V_slice HO742.out;subst eo29;obtain⟨Ao30,co30,eo30⟩:=Kd.R_slice HO746.out;subst eo30) |(go_at_call 9;(with_reducible refine(whetstonelaw02_same.calls k t739 _ _ t740 t743 _ _ t744 true _ ?side1 ?side2 ?side3 ?side4 A13.out).mono ?_);(case side1=>exact zC (Kd.V_reads' HO742.out).2.2);(case side2=>exact(Kd.V_reads' HO742.out).2.1);(case side3=>exact zC (Kd.R_reads' HO746.out).2.2);(case side4=>exact(Kd.R_reads' HO746.out).2.1);rintro e w31 ⟨rfl,hb⟩;replace HO742:=vb HO742 hb;replace HO746:=rb HO746 hb;replace BK731:=kb BK731 hb;replace BK737:=kb BK737 hb;replace HB:=am (below_step zb hb);(try clear hb);clear HO742 HO746) |(go_at_call 6;(with_reducible refine(whetstonelaw02_awake.calls k  t748 _ ?side1 ?side2 A15.out).mono ?_);(case side1=>first | rfl | exact HRT.out |(first | subst_vars | skip;simp_all));(case side2=>exact GW.below HG.out zb);rintro e w32 ⟨rfl,hb⟩;replace BK731:=kb BK731 hb;replace BK737:=kb BK737 hb;replace HB:=am (below_step zb hb);(try clear hb);skip))
     go_ret
     exact⟨zf,zb⟩
    ·replace c14:=Bool.eq_false_iff.mpr c14
     subst c14
     have H1 : (some false) = some r:=by rw [if_neg (show ¬ (false = true) by decide)] at H;exact H
     clear H
     have H:=H1
     clear H1
     exact absurd ((Option.some.inj H).trans HRT.out) (by decide)
   ·replace c10:=Bool.eq_false_iff.mpr c10
    subst c10
    have H1 : (some false) = some r:=by rw [if_neg (show ¬ (false = true) by decide)] at H;exact H
    clear H
    have H:=H1
    clear H1
    exact absurd ((Option.some.inj H).trans HRT.out) (by decide)
  ·rw [if_neg c8] at H
   have c8b0 : (t730 == t736) = false:=by simpa using c8
   (try (have c8b1 : decide (t730 = t736) = false:=by simpa using c8))
   (try (have c8b2 : (t730 == t736) = false:=by simpa using c8))
   (try (have c8b3 : ¬ (t730 = t736):=by simpa using c8))
   clear c8
   exact absurd ((Option.some.inj H).trans HRT.out) (by decide)

end Go.Proofs.YtcbohpmdeboeoaaGreatDoorRR.X

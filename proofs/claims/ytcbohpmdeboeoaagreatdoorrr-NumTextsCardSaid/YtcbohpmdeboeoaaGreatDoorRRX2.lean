-- Printed by xprint.py, this session's own program (wip/tool), out of the translation. Lean checks it.
import Derived.Test.YtcbohpmdeboeoaaGreatDoorRRZ
import Derived.Test.YtcbohpmdeboeoaaGreatDoorRRX0
import Derived.Test.YtcbohpmdeboeoaaGreatDoorRRX1
namespace Go.Proofs.YtcbohpmdeboeoaaGreatDoorRR.X
open Go.Proofs.YtcbohpmdeboeoaaGreatDoorRR.Z
open Go.RowKit Go.Proofs.YtcbohpmdeboeoaaGreatDoorRRW.PrintWords Go.Proofs.YtcbohpmdeboeoaaGreatDoorRRW.PrintLast Go.Proofs.YtcbohpmdeboeoaaGreatDoorRRW.PrintMore
open List renaming setIfInBounds_toArray → sA, set_cons_zero → sZ, set_cons_succ → sS
open Aside0 renaming mk → am
open Bool renaming true → tt, false → ff
set_option maxHeartbeats 8000000
set_option maxRecDepth 100000
attribute [local go_sem] max2_int min2_int max_two min_two max_three min_three max_four min_four   -- for this text's walks alone
set_option linter.unusedVariables false
set_option linter.unusedSimpArgs false

/-! ### nat_Of: function 28 -/
mutual
def nat_Of.j0 : Nat→ByteArray→Bool→Option (List Int×Bool)
 | 0,_,_=>none
 | k + 1,x0,x24=>if x24 = true then(some (([] : List Int),false)) else(nat_Of.l0 k x0 ([] : List Int))
def nat_Of.l0 : Nat→ByteArray→List Int→Option (List Int×Bool)
 | 0,_,_=>none
 | k + 1,x0,x4=>if (x0.size : Int) > 0 then(if 0≤(mx (wrap64 ((x0.size : Int) - 9)) 0) then(if (mx (wrap64 ((x0.size : Int) - 9)) 0)≤(x0.size : Int) then((strconv_ParseUint.f (x0.extract ((mx (wrap64 ((x0.size : Int) - 9)) 0) : Int).toNat x0.size) 10 64).bind fun bt129=>(if x4.length < 17592186044416 then(nat_Of.l0 k (x0.extract 0 ((mx (wrap64 ((x0.size : Int) - 9)) 0) : Int).toNat) (x4 ++ [bt129.1])) else(none))) else(none)) else(none)) else((nat_carried.f k x4).bind fun t134=>((nat_number_row.f k t134).bind fun t137=>(some (t137,true))))
end
def nat_Of.f (k : Nat) (a0 : ByteArray) : Option (List Int×Bool):=if a0.toList = ([] : List UInt8) then(nat_Of.j0 k a0 true) else(if (a0.size : Int) > 1 then(if 0 < (a0.size : Int) then(if (bt a0 0) = 48 then(nat_Of.j0 k a0 true) else((nat_decimal.f k a0).bind fun t127=>(nat_Of.j0 k a0 (!t127)))) else(none)) else((nat_decimal.f k a0).bind fun t128=>(nat_Of.j0 k a0 (!t128))))
def nat_Of.T7 : Bool×List (List Nat×List Nat):=(true,[([],[]),([],[]),([1],[1]),([0,2],[0,2]),([],[]),([],[]),([4,5],[4,5]),([3,3,0,1,2,3],[0,3]),([6,7,0,1,2,3,4,5,6,7],[4,6])])
def nat_Of.B7 : List Nat:=[0,0,2,7,0,0,48,15,255]
theorem nat_Of.tab7 : rtab .any (opsOf Tryz.f28 7) = nat_Of.T7:=by kernel_rfl
theorem nat_Of.bits7 : waitsOk nat_Of.T7.2 nat_Of.B7 = true:=by kernel_rfl
theorem nat_Of.calls (k : Nat) (a0 : ByteArray) (r1 : List Int) (r2 : Bool) (w : World) (h : nat_Of.f k a0 = some (r1,r2)) :
  Calls Tryz.prog 28 #[.string a0] w fun e w'=>∃ v0_ : Value,e = .returned (.tuple #[v0_,.bool r2])∧Kd.R (Kd.int .u32) 60 w' w.heap.size (fun _=>True) v0_ r1∧Below w.heap.size w w':=by
 have HB:=am (Below.refl w.heap.size w)
 have H : (if a0.toList = ([] : List UInt8) then(nat_Of.j0 k a0 true) else(if (a0.size : Int) > 1 then(if 0 < (a0.size : Int) then(if (bt a0 0) = 48 then(nat_Of.j0 k a0 true) else((nat_decimal.f k a0).bind fun t127=>(nat_Of.j0 k a0 (!t127)))) else(none)) else((nat_decimal.f k a0).bind fun t128=>(nat_Of.j0 k a0 (!t128))))) = some (r1,r2):=h
 clear h
 have HC2:=am H
 clear H
 go_enter Tryz.func28,Tryz.ntmps28
 go_upto_region 1 with(fail)
 go_cut [24] (fun v24 wc=>∃ (kq : Nat) (x24_1 : Bool),v24 = .bool x24_1∧Aside0 (nat_Of.j0 kq a0 x24_1 = some (r1,r2))∧Aside0 (kq≤k)∧Aside0 (Below w.heap.size w wc))
 case first=>
  have H:=HC2.out
  clear HC2
  by_cases c3 : a0.toList = ([] : List UInt8)
  ·rw [if_pos c3] at H
   have c3b0 : (a0.toList == ([] : List UInt8)) = true:=beq_iff_eq.mpr c3
   have c3b1 : (a0.toList != ([] : List UInt8)) = false:=bne_eq_false_iff_eq.mpr c3
   clear c3
   (first | rw [c3b0] |(simp only [i64_w,i32_w];rw [c3b0]) | rw [c3b1] | skip)
   have H':=am H
   clear H
   go_wp2
   go_meet
   case rel=>exact⟨_,(true),ze,H',⟨zo⟩,⟨zb⟩⟩
  ·rw [if_neg c3] at H
   have c3b0 : (a0.toList == ([] : List UInt8)) = false:=beq_eq_false_iff_ne.mpr c3
   have c3b1 : (a0.toList != ([] : List UInt8)) = true:=bne_iff_ne.mpr c3
   (first | rw [c3b0] |(simp only [i64_w,i32_w];rw [c3b0]) | rw [c3b1] | skip)
   by_cases c4 : (a0.size : Int) > 1
   ·rw [if_pos c4] at H
    have c4b0 : decide (1 < (a0.size : Int)) = true:=decide_eq_true c4
    have c4b1 : decide (1 < a0.size) = true:=decide_eq_true (by omega)
    clear c4
    by_cases c5 : 0 < (a0.size : Int)
    ·rw [if_pos c5] at H
     have c5b0 : decide (0 < (a0.size : Int)) = true:=decide_eq_true c5
     have c5b1 : decide (0 < a0.size) = true:=decide_eq_true (by omega)
     clear c5
     by_cases c7 : (bt a0 0) = 48
     ·rw [if_pos c7] at H
      have c7b0 : ((bt a0 0) == 48) = true:=beq_iff_eq.mpr c7
      have c7b1 : ((bt a0 0) != 48) = false:=bne_eq_false_iff_eq.mpr c7
      clear c7
      have H':=am H
      clear H
      have p6 : 0≤(0 : Int):=(by omega)
      have q6 : 0 < a0.size:=(by have : (0 : Int) < (a0.size : Int):=of_decide_eq_true za;omega)
      have hx6 : ∀ h : 0 < a0.size,((a0[0]'h).toNat : Int) = bt a0 0:=bt_at a0 0
      clear p6
      have qi6 : (0 < (a0.size : Int)) = True:=eq_true (of_decide_eq_true za)
      replace q6:=eq_true q6
      go_wp2
      go_meet
      case rel=>exact⟨_,(true),ze,H',⟨zo⟩,⟨zb⟩⟩
     ·rw [if_neg c7] at H
      have c7b0 : ((bt a0 0) == 48) = false:=beq_eq_false_iff_ne.mpr c7
      have c7b1 : ((bt a0 0) != 48) = true:=bne_iff_ne.mpr c7
      replace H:=Option.bind_eq_some_iff.mp H
      obtain⟨t127,A80,H⟩:=H
      try dsimp only at H
      have A8:=am A80
      clear A80
      have H':=am H
      clear H
      have p6 : 0≤(0 : Int):=(by omega)
      have q6 : 0 < a0.size:=(by have : (0 : Int) < (a0.size : Int):=of_decide_eq_true za;omega)
      have hx6 : ∀ h : 0 < a0.size,((a0[0]'h).toNat : Int) = bt a0 0:=bt_at a0 0
      clear p6
      have qi6 : (0 < (a0.size : Int)) = True:=eq_true (of_decide_eq_true za)
      replace q6:=eq_true q6
      go_wp2_with (first |(go_at_call 55;(with_reducible refine(nat_decimal.calls k a0 t127 _ A8.out).mono ?_);rintro e w' ⟨rfl,⟨nd,rfl⟩⟩))
      go_meet
      case rel=>exact⟨_,(!t127),ze,H',⟨zo⟩,⟨zb⟩⟩
    ·rw [if_neg c5] at H
     exact absurd H (by simp)
   ·rw [if_neg c4] at H
    have c4b0 : decide (1 < (a0.size : Int)) = false:=decide_eq_false c4
    have c4b1 : decide (1 < a0.size) = false:=decide_eq_false (by omega)
    clear c4
    replace H:=Option.bind_eq_some_iff.mp H
    obtain⟨t128,A90,H⟩:=H
    try dsimp only at H
    have A9:=am A90
    clear A90
    have H':=am H
    clear H
    go_wp2_with (first |(go_at_call 55;(with_reducible refine(nat_decimal.calls k a0 t128 _ A9.out).mono ?_);rintro e w' ⟨rfl,⟨nd,rfl⟩⟩))
    go_meet
    case rel=>exact⟨_,(!t128),ze,H',⟨zo⟩,⟨zb⟩⟩
 case rest=>
  clear HC2
  try clear c2
  try clear p2
  try clear c3
  try clear c3b0
  try clear c3b1
  try clear c4
  try clear c4b0
  try clear c4b1
  try clear c5
  try clear c5b0
  try clear c5b1
  try clear p6
  try clear q6
  try clear hx6
  try clear qi6
  try clear c7
  try clear c7b0
  try clear c7b1
  try clear p6
  try clear q6
  obtain⟨kq,x24_1,rfl,HA,HJ1,HB⟩:=hcut
  cases kq with
  | zero=>exact absurd HA.out (by simp [nat_Of.j0])
  | succ kj1=>
   have H:=HA.out
   clear HA
   simp only [nat_Of.j0] at H
   by_cases c10 : x24_1 = true
   ·subst c10
    have H1 : (some (([] : List Int),false)) = some (r1,r2):=by rw [if_pos rfl] at H;exact H
    clear H
    have H:=H1
    clear H1
    simp only [Option.some.injEq,Prod.mk.injEq] at H
    obtain⟨rfl,rfl⟩:=H
    go_wp2
    go_ret2
    exact⟨_,zf,by first | exact Kd.R_nil _ _ _ _ _ | exact Kd.N_nil _ _ _ _ _ | exact Kd.V_nil _ _ _ _ _ | exact Kd.Q_nil _ _ _ _ _ | exact Kd.S_nil _ _ _ _ _,zb⟩
   ·replace c10:=Bool.eq_false_iff.mpr c10
    subst c10
    have H1 : (nat_Of.l0 kj1 a0 ([] : List Int)) = some (r1,r2):=by rw [if_neg (show ¬ (false = true) by decide)] at H;exact H
    clear H
    have H:=H1
    clear H1
    have H':=am H
    clear H
    go_wp2
    go_loopg [0,4] kj1 (fun kq v0 v4 w'=>∃ (x0_2 : ByteArray) (x4_2 : List Int),v0 = .string x0_2∧Aside0 (nat_Of.l0 kq x0_2 x4_2 = some (r1,r2))∧Aside0 (kq≤kj1)∧Aside0 (Kd.R (Kd.int .u64) 59 w' w.heap.size (fun _=>True) v4 x4_2)∧Aside0 (Below w.heap.size w w'))
    case atStart=>exact⟨(a0),(([] : List Int)),ze,H',⟨Nat.le_refl _⟩,⟨by first | exact Kd.R_nil _ _ _ _ _ | exact Kd.N_nil _ _ _ _ _ | exact Kd.V_nil _ _ _ _ _ | exact Kd.Q_nil _ _ _ _ _ | exact Kd.S_nil _ _ _ _ _⟩,⟨zb⟩⟩
    case round=>
     clear H'
     try clear c1
     try clear c2
     try clear p2
     try clear c3
     try clear c3b0
     try clear c3b1
     try clear c4
     try clear c4b0
     try clear c4b1
     try clear c5
     try clear c5b0
     try clear c5b1
     try clear p6
     try clear q6
     try clear hx6
     try clear qi6
     try clear c7
     try clear c7b0
     try clear c7b1
     try clear c10
     try clear p2
     try clear p6
     try clear q6
     obtain⟨x0_2,x4_2,rfl,HA,HK2,HO_4,HB⟩:=hrel
     cases gk with
     | zero=>exact absurd HA.out (by simp [nat_Of.l0])
     | succ k2=>
      have H:=HA.out
      clear HA
      simp only [nat_Of.l0] at H
      by_cases c11 : (x0_2.size : Int) > 0
      ·rw [if_pos c11] at H
       have c11b0 : decide (0 < (x0_2.size : Int)) = true:=decide_eq_true c11
       have c11b1 : decide (0 < x0_2.size) = true:=decide_eq_true (by omega)
       clear c11
       obtain⟨ji12,hji12⟩ : ∃ j_ : Int,(mx (wrap64 ((x0_2.size : Int) - 9)) 0) = j_:=⟨_,rfl⟩
       replace H : (if 0≤(ji12) then(if (ji12)≤(x0_2.size : Int) then((strconv_ParseUint.f (x0_2.extract ((ji12) : Int).toNat x0_2.size) 10 64).bind fun bt129=>(if x4_2.length < 17592186044416 then(nat_Of.l0 k2 (x0_2.extract 0 ((ji12) : Int).toNat) (x4_2 ++ [bt129.1])) else(none))) else(none)) else(none)) = some (r1,r2):=by first |(rw [hji12] at H;exact H) |(simp only [hji12] at H ⊢;exact H)
       have hji12_ : (if (wrap64 ((x0_2.size : Int) - 9)) < 0 then 0 else(wrap64 ((x0_2.size : Int) - 9))) = ji12:=hji12
       by_cases c13 : 0≤(ji12)
       ·rw [if_pos c13] at H
        have c13b0:=eq_true c13
        have c13b1 : decide (0≤(ji12)) = true:=decide_eq_true c13
        clear c13
        by_cases c14 : (ji12)≤(x0_2.size : Int)
        ·rw [if_pos c14] at H
         have c14b0:=eq_true c14
         have c14b1 : decide ((ji12)≤(x0_2.size : Int)) = true:=decide_eq_true c14
         clear c14
         replace H:=Option.bind_eq_some_iff.mp H
         obtain⟨⟨t129,t130⟩,A150,H⟩:=H
         try dsimp only at H
         have A15:=am A150
         clear A150
         by_cases c16 : x4_2.length < 17592186044416
         ·rw [if_pos c16] at H
          have LMc16:=am c16
          clear c16
          obtain⟨y131,hy131⟩ : ∃ y_ : List Int,y_ = (x4_2 ++ [t129]):=⟨_,rfl⟩
          replace H : (nat_Of.l0 k2 (x0_2.extract 0 ((ji12) : Int).toNat) y131) = some (r1,r2):=by first |(rw [hy131];with_reducible exact H) |(have H2_:=(Option.bind_some _ _).symm.trans H;rw [hy131];with_reducible exact H2_) |(have H2_:=(Option.bind_some _ _).symm.trans H;with_reducible exact H2_) | with_reducible exact H |(rw [hy131];exact H) | exact H
          have Ny131:=am hy131
          clear hy131
          have c17b0:=eq_true (of_decide_eq_true za : 0≤(ji12))
          have c18b0:=eq_true (of_decide_eq_true za : (ji12)≤(x0_2.size : Int))
          have H':=am H
          clear H
          try go_wp2_with (first |((with_reducible refine gate_callee (f:=56) rfl ?_);refine goesL_ (some 36) rfl rfl Tryz.func56 (by kernel_rfl) rfl #[.string (x0_2.extract ((ji12) : Int).toNat x0_2.size),.int .i64 10,.int .i64 64] rfl (by(try simp only [List.map_toArray,List.map_cons,List.map_nil]);first | done |(simp only [hji12];rfl) | rfl |(simp only [List.length_drop,List.length_take];rfl)) ?_;(with_reducible refine(strconv_ParseUint.calls (x0_2.extract ((ji12) : Int).toNat x0_2.size) 10 64 t129 t130 _ A15.out).mono ?_);rintro e w19 ⟨rfl,hb⟩;refine⟨_,rfl,?_⟩;replace HO_4:=rb HO_4 hb;replace HB:=am (below_step zb hb);(try clear hb);(try simp only [errW_none,errW_some])))
          replace HO_4:=am (Kd.R_drew HO_4.out)
          replace HB:=am (below_drew1 HB.out)
          refine start_ (n:=9) (S:=fun w'=>True) (ds:=[]) #[ff,ff,ff,ff,ff,ff,ff,ff,ff] (by kernel_rfl) rfl rfl trivial (fun hHeld=>?_);refine with_tabW nat_Of.tab7 nat_Of.bits7 (fun HT_ HW_=>?_)
          generalize w19.drew = w20 at HO_4 HB hHeld ⊢
          refine pu (i:=0) (N:=some 39) #[tt,ff,ff,ff,ff,ff,ff,ff,ff] (any_of HT_.out (by kernel_rfl)) ?_
          refine pu (i:=1) (N:=some 40) #[tt,tt,ff,ff,ff,ff,ff,ff,ff] (any_of HT_.out (by kernel_rfl)) ?_
          refine pu (i:=4) (N:=some 43) #[tt,tt,ff,ff,tt,ff,ff,ff,ff] (any_of HT_.out (by kernel_rfl)) ?_
          refine pu (i:=5) (N:=some 44) #[tt,tt,ff,ff,tt,tt,ff,ff,ff] (any_of HT_.out (by kernel_rfl)) ?_
          refine pu (i:=6) (N:=some 45) #[tt,tt,ff,ff,tt,tt,tt,ff,ff] (any_of HT_.out (by kernel_rfl)) ?_
          refine one_ (i:=2) (N:=some 41) #[tt,tt,tt,ff,tt,tt,tt,ff,ff] rfl rfl (one_of HT_.out (by kernel_rfl)) (by decide) (fun K hK=>?_)
          refine value_ (w1:=?_) (v:=?_) (by rfl) rfl ?_ ?_
          rotate_left 2
          ·go_simp
           constructor
           ·rfl
           ·rfl
          refine hK.out _ _ trivial (fun hHeld=>?_)
          clear hK K
          refine norm_ (a':=?_) ?_ ?_
          rotate_left
          ·show Act.put _ (some 41) _ = _
           simp only [Act.put,sA,sZ,sS,i64_w,i32_w]
           rfl
          refine one_ (i:=3) (N:=some 42) #[tt,tt,tt,tt,tt,tt,tt,ff,ff] rfl rfl (one_of HT_.out (by kernel_rfl)) (by decide) (fun K hK=>?_)
          refine Kd.R_append_step (Kd.int .u64) (w0:=w) w.heap.size (by rfl) (.tmp 39) (.tmp 41) 77 59 (.int .u64 0) 8 rfl Tryz.underlying77 info59 rfl (by decide) (by omega) u4 x4_2 t129 [.int .u64 t129] (fun _=>True) (fun _=>False) rfl rfl ?aP (fun _ hk=>hk.elim) ?aF ?aO ?aB ?aS ?aL ?_
          (case aP=>exact rfl)
          (case aB=>exact zb)
          (case aF=>exact(fun _ _=>trivial))
          (case aO=>exact(zR HO_4.out))
          (case aS=>exact(below_size zb))
          (case aL=>have:=LMc16.out;omega)
          intro v132 w21 ho hb hg hat
          rw [← Ny131.out] at ho
          replace HB:=am (hb)
          have HO133:=am (ho)
          clear HO_4
          clear ho hb hg hat
          refine hK.out _ _ trivial (fun hHeld=>?_)
          clear hK K
          refine norm_ (a':=?_) ?_ ?_
          rotate_left
          ·show Act.put _ (some 42) _ = _
           simp only [Act.put,sA,sZ,sS,i64_w,i32_w]
           rfl
          refine pu (i:=7) (N:=some 4) #[tt,tt,tt,tt,tt,tt,tt,tt,ff] (any_of HT_.out (by kernel_rfl)) ?_
          refine pu (i:=8) (N:=some 0) #[tt,tt,tt,tt,tt,tt,tt,tt,tt] (any_of HT_.out (by kernel_rfl)) ?_
          refine done_ (done_of HT_.out (by kernel_rfl)) ?_
          try go_wp2
          go_roundg k2
          case measure=>have:=HJ1.out;have:=HK2.out;omega
          case rel=>exact⟨(x0_2.extract 0 ((ji12) : Int).toNat),(y131),(by first | rfl |(simp;done) |(simp only [← hji12] <;> (first | rfl | simp)) |(simp [*];done)),H',⟨by have:=HJ1.out;have:=HK2.out;omega⟩,⟨zR HO133.out⟩,⟨zb⟩⟩
         ·rw [if_neg c16] at H
          exact absurd H (by simp)
        ·rw [if_neg c14] at H
         exact absurd H (by simp)
       ·rw [if_neg c13] at H
        exact absurd H (by simp)
      ·rw [if_neg c11] at H
       have c11b0 : decide (0 < (x0_2.size : Int)) = false:=decide_eq_false c11
       have c11b1 : decide (0 < x0_2.size) = false:=decide_eq_false (by omega)
       clear c11
       replace H:=Option.bind_eq_some_iff.mp H
       obtain⟨t134,A220,H⟩:=H
       try dsimp only at H
       have A22:=am A220
       clear A220
       replace H:=Option.bind_eq_some_iff.mp H
       obtain⟨t137,A230,H⟩:=H
       try dsimp only at H
       have A23:=am A230
       clear A230
       simp only [Option.some.injEq,Prod.mk.injEq] at H
       obtain⟨rfl,rfl⟩:=H
       obtain⟨Ao24,co24,eo24⟩:=Kd.R_slice HO_4.out
       subst eo24
       go_wp2_with (first |((with_reducible refine gate_callee (f:=57) rfl ?_);refine goesL_ (some 47) rfl rfl Tryz.func57 (by kernel_rfl) rfl #[.slice Ao24 x4_2.length co24] rfl zl ?_;(with_reducible refine(nat_carried.calls k2 _ _ x4_2 t134 _ ?side1 ?side2 A22.out).mono ?_);(case side1=>exact zC (Kd.R_reads' HO_4.out).2.2);(case side2=>exact(Kd.R_reads' HO_4.out).2.1);rintro e w25 ⟨v135,rfl,ho0,hb⟩;refine⟨_,rfl,?_⟩;have HO136:=am (Kd.R_lower (Kd.R_new' ho0 (Kd.R_lt (zR HO_4.out))) (below_size zb));replace HO_4:=re HO_4 (Kd.R_base ho0) hb;replace HB:=am (below_step zb hb);(try clear hb);(try clear ho0);obtain⟨Ao26,co26,eo26⟩:=Kd.R_slice HO136.out;subst eo26) |((with_reducible refine gate_callee (f:=58) rfl ?_);refine goesL_ (some 48) rfl rfl Tryz.func58 (by kernel_rfl) rfl #[.agg #[.slice Ao26 t134.length co26]] rfl zl ?_;(with_reducible refine(nat_number_row.calls k2 _ _ t134 t137 _ ?side1 ?side2 A23.out).mono ?_);(case side1=>exact zC (Kd.R_reads' HO136.out).2.2);(case side2=>exact(Kd.R_reads' HO136.out).2.1);rintro e w27 ⟨v138,rfl,ho0,hb⟩;refine⟨_,rfl,?_⟩;replace HO_4:=rb HO_4 hb;replace HO136:=rb HO136 hb;have HO139:=am (Kd.R_lower ho0 (below_size zb));replace HB:=am (below_step zb hb);(try clear hb);(try clear ho0)))
       go_ret2
       exact⟨_,zf,zR HO139.out,zb⟩

/-! ### num_size_zero: function 44 -/
def num_size_zero.f (l0_0 : List Int) : Option (Bool):=some ((l0_0.length : Int) == 0)
theorem num_size_zero.calls (A0_0 : Option Addr) (c0_0 : Nat) (l0_0 : List Int) (r : Bool) (w : World) (hr0_0 : Kd.C (Kd.int .u32) w A0_0 l0_0.length l0_0) (hc0_0 : l0_0.length≤c0_0) (h : num_size_zero.f l0_0 = some r) :
  Calls Tryz.prog 44 #[.agg #[.slice A0_0 l0_0.length c0_0]] w fun e w'=>e = .returned (.bool r)∧Below w.heap.size w w':=by
 have hu52:=Tryz.underlying52
 have HR0_0:=am hr0_0
 have HC0_0:=am hc0_0
 clear hr0_0 hc0_0
 have HB:=am (Below.refl w.heap.size w)
 have H : (some ((l0_0.length : Int) == 0)) = some r:=h
 clear h
 obtain rfl:=Option.some.inj H
 go_enter Tryz.func44,Tryz.ntmps44
 go_wp2_with (first |((with_reducible refine gate_dst (N:=1) rfl ?_);refine box_event ?hg (N:=1) ?hd (cs:=#[.slice A0_0 l0_0.length c0_0]) (t:=52) ?hr ?_;(case hd=>rfl);(case hg=>rfl);(case hr=>exact zh);intro gb140 hg w2 hbox hb;have BK140:=am (hbox);have GW140:=gw w hg;have GE140:=gw w hg;replace HB:=am (below_step zb hb);clear hb hbox hg;have hcz3_0 : w2.cell? ⟨gb140,0,none⟩ = some (.slice A0_0 l0_0.length c0_0):=(blk_cell BK140.out 0).trans rfl;have hfz3_0:=blk_frozen BK140.out 0))
 go_ret
 exact⟨zf,zb⟩

/-! ### nat_of: function 72 -/
def nat_of.l0 : Nat→List Int→List Int→Int→Int→Option (List Int)
 | 0,_,_,_,_=>none
 | k + 1,x3,x9,x10,x11=>if x11 < x10 then(if 0≤x11 then(if x11 < (x9.length : Int) then(if x11 < (x3.length : Int) then(nat_of.l0 k (x3.set (x11 : Int).toNat (IntKind.u64.wrap (rd x9 x11))) x9 x10 (wrap64 (x11 + 1))) else(none)) else(none)) else(none)) else((nat_carried.f k x3).bind fun t147=>(some t147))
def nat_of.f (k : Nat) (l0 : List Int) : Option (List Int):=if 0≤(l0.length : Int) then(if ((l0.length : Int) : Int).toNat≤35184372088832 then(nat_of.l0 k (List.replicate ((l0.length : Int) : Int).toNat 0) l0 (l0.length : Int) 0) else(none)) else(none)
theorem nat_of.calls (k : Nat) (A0 : Option Addr) (c0 : Nat) (l0 : List Int) (r : List Int) (w : World) (hr0 : Kd.C (Kd.int .u32) w A0 l0.length l0) (hc0 : l0.length≤c0) (h : nat_of.f k l0 = some r) :
  Calls Tryz.prog 72 #[.slice A0 l0.length c0] w fun e w'=>∃ v0_ : Value,e = .returned (.agg #[v0_])∧Kd.R (Kd.int .u64) 59 w' w.heap.size (fun _=>True) v0_ r∧Below w.heap.size w w':=by
 have hu83:=Tryz.underlying83
 have HR0:=am hr0
 have HC0:=am hc0
 clear hr0 hc0
 have HB:=am (Below.refl w.heap.size w)
 have H : (if 0≤(l0.length : Int) then(if ((l0.length : Int) : Int).toNat≤35184372088832 then(nat_of.l0 k (List.replicate ((l0.length : Int) : Int).toNat 0) l0 (l0.length : Int) 0) else(none)) else(none)) = some r:=h
 clear h
 by_cases c2 : 0≤(l0.length : Int)
 ·rw [if_pos c2] at H
  have c2b0:=eq_true c2
  have c2b1 : decide (0≤(l0.length : Int)) = true:=decide_eq_true c2
  clear c2
  by_cases c3 : ((l0.length : Int) : Int).toNat≤35184372088832
  ·rw [if_pos c3] at H
   have c3b0:=eq_true c3
   have c3b1 : decide (((l0.length : Int) : Int).toNat≤35184372088832) = true:=decide_eq_true c3
   clear c3
   obtain⟨y142,hy142⟩ : ∃ y_ : List Int,y_ = (List.replicate ((l0.length : Int) : Int).toNat 0):=⟨_,rfl⟩
   replace H : (nat_of.l0 k y142 l0 (l0.length : Int) 0) = some r:=by first |(rw [hy142];with_reducible exact H) |(have H2_:=(Option.bind_some _ _).symm.trans H;rw [hy142];with_reducible exact H2_) |(have H2_:=(Option.bind_some _ _).symm.trans H;with_reducible exact H2_) | with_reducible exact H |(rw [hy142];exact H) | exact H
   have Ny142:=am hy142
   clear hy142
   have H':=am H
   clear H
   go_enter Tryz.func72,Tryz.ntmps72
   go_wp2_with (first |((with_reducible refine gate_dst (N:=2) rfl ?_);refine box_event ?hg (N:=2) ?hd (cs:=#[.slice none 0 0]) (t:=83) ?hr ?_;(case hd=>rfl);(case hg=>rfl);(case hr=>exact zh);intro gb141 hg w4 hbox hb;have BK141:=am (hbox);have GW141:=gw w hg;have GE141:=gw w hg;replace HB:=am (below_step zb hb);clear hb hbox hg) |((with_reducible refine gate_dst (N:=8) rfl ?_);refine Kd.R_make (Kd.int .u64) _ 59 rfl (N:=8) rfl 77 _ _ rfl (l0.length : Int) rfl rfl Tryz.underlying77 (.int .u64 0) 8 info59 rfl (by decide) (by omega) 0 (ok:=fun _=>True) (okp:=fun _=>True) rfl (fun _ hk=>hk) trivial (of_decide_eq_true za) (Nat.le_trans (Nat.mul_le_mul_right _ (of_decide_eq_true za : (l0.length : Int).toNat≤35184372088832)) (by omega)) (Below.refl _ _) (Nat.le_refl _) ?_;intro v143 w5 ho6 hb hg_ hnew_;clear hg_ hnew_;(first | rw [← Ny142.out] at ho6 |(simp only [Int.reduceToNat] at ho6;rw [← Ny142.out] at ho6));have HO144:=am (Kd.R_lower ho6 (below_size zb));replace BK141:=kb BK141 hb;replace HB:=am (below_step zb hb);clear hb ho6))
   go_loopg [11] k (fun kq v11 w'=>∃ (x3_1 : List Int) (x11_1 : Int),v11 = .int .i64 x11_1∧Aside0 (nat_of.l0 kq x3_1 l0 (l0.length : Int) x11_1 = some r)∧Aside0 (kq≤k)∧Aside0 (Kd.R (Kd.int .u64) 59 w' w.heap.size (fun _=>True) v143 x3_1)∧Aside0 (w'.heap[gb141]? = some (.cells #[(.slice none 0 0)] 83 (0,0)))∧Aside0 (Below w.heap.size w w'))
   case atStart=>exact⟨(y142),(0),ze,H',⟨Nat.le_refl _⟩,⟨zR HO144.out⟩,⟨zk BK141.out⟩,⟨zb⟩⟩
   case round=>
    clear H'
    try clear c2
    try clear c2b0
    try clear c2b1
    try clear p2
    try clear c3
    try clear c3b0
    try clear c3b1
    obtain⟨x3_1,x11_1,rfl,HA,HK1,HO_3,BK141,HB⟩:=hrel
    cases gk with
    | zero=>exact absurd HA.out (by simp [nat_of.l0])
    | succ k1=>
     have H:=HA.out
     clear HA
     simp only [nat_of.l0] at H
     by_cases c7 : x11_1 < (l0.length : Int)
     ·rw [if_pos c7] at H
      have c7b0 : decide (x11_1 < (l0.length : Int)) = true:=decide_eq_true c7
      clear c7
      by_cases c8 : 0≤x11_1
      ·rw [if_pos c8] at H
       have c8b0 : decide (0≤x11_1) = true:=decide_eq_true c8
       clear c8
       by_cases c9 : x11_1 < (l0.length : Int)
       ·rw [if_pos c9] at H
        have c9b0 : decide (x11_1 < (l0.length : Int)) = true:=decide_eq_true c9
        clear c9
        by_cases c10 : x11_1 < (x3_1.length : Int)
        ·rw [if_pos c10] at H
         have c10b0 : decide (x11_1 < (x3_1.length : Int)) = true:=decide_eq_true c10
         clear c10
         obtain⟨y146,hy146⟩ : ∃ y_ : List Int,y_ = (x3_1.set (x11_1 : Int).toNat (IntKind.u64.wrap (rd l0 x11_1))):=⟨_,rfl⟩
         replace H : (nat_of.l0 k1 y146 l0 (l0.length : Int) (wrap64 (x11_1 + 1))) = some r:=by first |(rw [hy146];with_reducible exact H) |(have H2_:=(Option.bind_some _ _).symm.trans H;rw [hy146];with_reducible exact H2_) |(have H2_:=(Option.bind_some _ _).symm.trans H;with_reducible exact H2_) | with_reducible exact H |(rw [hy146];exact H) | exact H
         have Ny146:=am hy146
         clear hy146
         have H':=am H
         clear H
         have p145 : 0≤(x11_1 : Int):=of_decide_eq_true za
         have q145 : x11_1 < (l0.length : Int):=of_decide_eq_true za
         obtain⟨ad145,e145,hx145_0⟩:=Kd.at_int HR0.out x11_1 p145 q145
         cases e145
         replace hx145_0:=(HB.out.cell (World.block_lt_of_cell? w _ hx145_0)).trans hx145_0
         replace p145:=eq_true p145
         replace q145:=eq_true q145
         have p11 : 0≤(x11_1 : Int):=of_decide_eq_true za
         have q11 : (x11_1 : Int) < ((x3_1.length : Int) : Int):=of_decide_eq_true za
         obtain⟨go11,co11,eo11,gb11,gl11,cl11,HG11⟩:=Kd.R_form HO_3.out (by omega)
         (first | cases eo11 |(injection eo11 with ea_ en_ ec_;(first | subst ea_ |(injection ea_ with ea_;subst ea_));subst ec_;clear en_))
         have GB11:=am gb11
         have GG11:=am HG11
         clear gb11 gl11 HG11
         obtain⟨hx11_0,hf11_0⟩:=Kd.R_celln 0 HO_3.out (x11_1 : Int) p11 q11
         replace p11:=eq_true p11
         replace q11:=eq_true q11
         have HP12:=Kd.R_putg HO_3.out (x11_1 : Int) (IntKind.u64.wrap (rd l0 x11_1))
         go_wp2_with (first |((with_reducible refine gate_store (t:=59) (p:=20) rfl ?_);refine store_event (t:=59) (p:=20) (v:=?vo_w13) (w1:=(wr.setCell ⟨go11,(x11_1 : Int).toNat,none⟩ (.int .u64 (IntKind.u64.wrap (rd l0 x11_1))))) ?hg ?ho ?hn ?hr ?_;(case ho=>rfl);(case hg=>rfl);(case hn=>rfl);(case hr=>exact zh);intro w13 hw;have hg : wr.grownBy w13 (some go11):=(by rw [hw];exact HP12.2);have hp_ : Kd.R (Kd.int .u64) 59 w13 w.heap.size (fun _=>True) (.slice (some ⟨go11,0,none⟩) x3_1.length co11) y146:=(by rw [hw,Ny146.out];exact HP12.1);clear HP12;replace BK141:=am (blk_grown (zk BK141.out) hg (Kd.R_ne HO_3.out BK141.out (by decide)));replace HO_3:=am (hp_);replace HB:=am ((by rw [hw];exact below_set (HB.out) GB11.out : Below w.heap.size w w13));clear hg hw hp_))
         go_roundg k1
         case measure=>have:=HK1.out;omega
         case rel=>exact⟨(y146),(wrap64 (x11_1 + 1)),ze,H',⟨by have:=HK1.out;omega⟩,⟨zR HO_3.out⟩,⟨zk BK141.out⟩,⟨zb⟩⟩
        ·rw [if_neg c10] at H
         exact absurd H (by simp)
       ·rw [if_neg c9] at H
        exact absurd H (by simp)
      ·rw [if_neg c8] at H
       exact absurd H (by simp)
     ·rw [if_neg c7] at H
      have c7b0 : decide (x11_1 < (l0.length : Int)) = false:=decide_eq_false c7
      clear c7
      replace H:=Option.bind_eq_some_iff.mp H
      obtain⟨t147,A140,H⟩:=H
      try dsimp only at H
      have A14:=am A140
      clear A140
      obtain rfl:=Option.some.inj H
      obtain⟨Ao15,co15,eo15⟩:=Kd.R_slice HO_3.out
      subst eo15
      go_wp2_with (first |((with_reducible refine gate_callee (f:=57) rfl ?_);refine goesL_ (some 23) rfl rfl Tryz.func57 (by kernel_rfl) rfl #[.slice Ao15 x3_1.length co15] rfl zl ?_;(with_reducible refine(nat_carried.calls k1 _ _ x3_1 t147 _ ?side1 ?side2 A14.out).mono ?_);(case side1=>exact zC (Kd.R_reads' HO_3.out).2.2);(case side2=>exact(Kd.R_reads' HO_3.out).2.1);rintro e w16 ⟨v148,rfl,ho0,hb⟩;refine⟨_,rfl,?_⟩;have HO149:=am (Kd.R_lower (Kd.R_new' ho0 (Kd.R_lt (zR HO_3.out))) (below_size zb));replace HO_3:=re HO_3 (Kd.R_base ho0) hb;replace BK141:=kb BK141 hb;replace HB:=am (below_step zb hb);(try clear hb);(try clear ho0);obtain⟨Ao17,co17,eo17⟩:=Kd.R_slice HO149.out;subst eo17;have hcz18_0 : w16.cell? ⟨gb141,0,none⟩ = some (.slice none 0 0):=(blk_cell BK141.out 0).trans rfl;have hfz18_0:=blk_frozen BK141.out 0))
      refine bodyPost_ret (results_cell_row rfl _ _ gb141 83 #[.slice Ao17 t147.length co17] (0,0) _ rfl (by refine zk ?_;refine blk_put (cs:=#[.slice none 0 0]) ?_ 0 _ rfl;refine zk ?_;exact BK141.out) Tryz.underlying83 rfl (by kernel_rfl)) rfl ?_
      exact⟨_,zf,by refine zR ?_;exact Kd.R_mono (Kd.R_far (p:=⟨gb141,0,none⟩) (Kd.R_types HO149.out BK141.out (by decide)) (fun _ hk=>hk.2) (.slice Ao17 t147.length co17)) (fun _ hk=>trivial),zb⟩
  ·rw [if_neg c3] at H
   exact absurd H (by simp)
 ·rw [if_neg c2] at H
  exact absurd H (by simp)

/-! ### nat_Trim: function 59 -/
def nat_Trim.f (k : Nat) (l0 : List Int) : Option (List Int):=(nat_of.f k l0).bind fun t150=>((nat_number_row.f k t150).bind fun t153=>(some t153))
theorem nat_Trim.calls (k : Nat) (A0 : Option Addr) (c0 : Nat) (l0 : List Int) (r : List Int) (w : World) (hr0 : Kd.C (Kd.int .u32) w A0 l0.length l0) (hc0 : l0.length≤c0) (h : nat_Trim.f k l0 = some r) :
  Calls Tryz.prog 59 #[.slice A0 l0.length c0] w fun e w'=>∃ v0_ : Value,e = .returned (v0_)∧Kd.R (Kd.int .u32) 60 w' w.heap.size (fun _=>True) v0_ r∧Below w.heap.size w w':=by
 have HR0:=am hr0
 have HC0:=am hc0
 clear hr0 hc0
 have HB:=am (Below.refl w.heap.size w)
 have H : ((nat_of.f k l0).bind fun t150=>((nat_number_row.f k t150).bind fun t153=>(some t153))) = some r:=h
 clear h
 replace H:=Option.bind_eq_some_iff.mp H
 obtain⟨t150,A20,H⟩:=H
 try dsimp only at H
 have A2:=am A20
 clear A20
 replace H:=Option.bind_eq_some_iff.mp H
 obtain⟨t153,A30,H⟩:=H
 try dsimp only at H
 have A3:=am A30
 clear A30
 obtain rfl:=Option.some.inj H
 go_enter Tryz.func59,Tryz.ntmps59
 go_wp2_with (first |((with_reducible refine gate_callee (f:=72) rfl ?_);refine goesL_ (some 4) rfl rfl Tryz.func72 (by kernel_rfl) rfl #[.slice A0 l0.length c0] rfl zl ?_;(with_reducible refine(nat_of.calls k _ _ l0 t150 _ ?side1 ?side2 A2.out).mono ?_);(case side1=>exact zC HR0.out);(case side2=>exact HC0.out);rintro e w4 ⟨v151,rfl,ho0,hb⟩;refine⟨_,rfl,?_⟩;have HO152:=am (Kd.R_lower ho0 (below_size zb));replace HB:=am (below_step zb hb);(try clear hb);(try clear ho0);obtain⟨Ao5,co5,eo5⟩:=Kd.R_slice HO152.out;subst eo5) |((with_reducible refine gate_callee (f:=58) rfl ?_);refine goesL_ (some 5) rfl rfl Tryz.func58 (by kernel_rfl) rfl #[.agg #[.slice Ao5 t150.length co5]] rfl zl ?_;(with_reducible refine(nat_number_row.calls k _ _ t150 t153 _ ?side1 ?side2 A3.out).mono ?_);(case side1=>exact zC (Kd.R_reads' HO152.out).2.2);(case side2=>exact(Kd.R_reads' HO152.out).2.1);rintro e w6 ⟨v154,rfl,ho0,hb⟩;refine⟨_,rfl,?_⟩;replace HO152:=rb HO152 hb;have HO155:=am (Kd.R_lower ho0 (below_size zb));replace HB:=am (below_step zb hb);(try clear hb);(try clear ho0)))
 go_ret
 exact⟨_,zf,zR HO155.out,zb⟩

end Go.Proofs.YtcbohpmdeboeoaaGreatDoorRR.X

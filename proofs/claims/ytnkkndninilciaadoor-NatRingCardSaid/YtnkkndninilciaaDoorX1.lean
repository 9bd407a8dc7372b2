-- Printed by xprint.py, this session's own program (wip/tool), out of the translation. Lean checks it.
import Derived.Test.YtnkkndninilciaaDoorZ
import Derived.Test.YtnkkndninilciaaDoorX0
namespace Go.Proofs.YtnkkndninilciaaDoor.X
open Go.Proofs.YtnkkndninilciaaDoor.Z
open Go.RowKit Go.Proofs.YtnkkndninilciaaDoorW.PrintWords Go.Proofs.YtnkkndninilciaaDoorW.PrintLast Go.Proofs.YtnkkndninilciaaDoorW.PrintMore
open List renaming setIfInBounds_toArray → sA, set_cons_zero → sZ, set_cons_succ → sS
open Aside0 renaming mk → am
open Bool renaming true → tt, false → ff
set_option maxHeartbeats 8000000
set_option maxRecDepth 100000
attribute [local go_sem] max2_int min2_int max_two min_two max_three min_three max_four min_four   -- for this text's walks alone
set_option linter.unusedVariables false
set_option linter.unusedSimpArgs false

/-! ### whetstonekit_SameLimbs: function 23 -/
def whetstonekit_SameLimbs.l0 : Nat→List Int→List Int→Int→Option (Bool)
 | 0,_,_,_=>none
 | k + 1,x0,x1,x5=>if x5 < (x0.length : Int) then(if 0≤x5 then(if x5 < (x1.length : Int) then(if (rd x0 x5) = (rd x1 x5) then(whetstonekit_SameLimbs.l0 k x0 x1 (wrap64 (x5 + 1))) else(some false)) else(none)) else(none)) else(some true)
def whetstonekit_SameLimbs.f (k : Nat) (l0 : List Int) (l1 : List Int) : Option (Bool):=if (l0.length : Int) = (l1.length : Int) then(whetstonekit_SameLimbs.l0 k l0 l1 0) else(some false)
theorem whetstonekit_SameLimbs.calls (k : Nat) (A0 : Option Addr) (c0 : Nat) (l0 : List Int) (A1 : Option Addr) (c1 : Nat) (l1 : List Int) (r : Bool) (w : World) (hr0 : Kd.C (Kd.int .u32) w A0 l0.length l0) (hc0 : l0.length≤c0) (hr1 : Kd.C (Kd.int .u32) w A1 l1.length l1) (hc1 : l1.length≤c1) (h : whetstonekit_SameLimbs.f k l0 l1 = some r) :
  Calls Tryd.prog 23 #[.slice A0 l0.length c0,.slice A1 l1.length c1] w fun e w'=>e = .returned (.bool r)∧Drawn0 w w':=by
 have HR0:=am hr0
 have HC0:=am hc0
 clear hr0 hc0
 have HR1:=am hr1
 have HC1:=am hc1
 clear hr1 hc1
 have H : (if (l0.length : Int) = (l1.length : Int) then(whetstonekit_SameLimbs.l0 k l0 l1 0) else(some false)) = some r:=h
 clear h
 by_cases c3 : (l0.length : Int) = (l1.length : Int)
 ·rw [if_pos c3] at H
  have c3b0 : ((l0.length : Int) == (l1.length : Int)) = true:=beq_iff_eq.mpr c3
  have c3b1 : ((l0.length : Int) != (l1.length : Int)) = false:=bne_eq_false_iff_eq.mpr c3
  have c3b2 : (l0.length == l1.length) = true:=by first | simpa using c3 |(simp at c3 ⊢;omega)
  clear c3
  have H':=am H
  clear H
  go_enter Tryd.func23,Tryd.ntmps23
  go_wp2
  repeat (go_quiet (fail);try go_wp2)
  go_loopg [5] k (fun kq v5 w'=>∃ (x5_1 : Int),v5 = .int .i64 x5_1∧Aside0 (whetstonekit_SameLimbs.l0 kq l0 l1 x5_1 = some r)∧Aside0 (kq≤k)∧Drawn0 w w')
  case atStart=>exact⟨(0),ze,H',⟨Nat.le_refl _⟩,by repeat (first | exact Drawn0.refl _ | apply Drawn0.step)⟩
  case round=>
   clear H'
   try clear c1
   try clear c2
   try clear p2
   try clear c3
   try clear c3b0
   try clear c3b1
   try clear c3b2
   obtain⟨x5_1,rfl,HA,HK1,⟨m1,rfl⟩⟩:=hrel
   cases gk with
   | zero=>exact absurd HA.out (by simp [whetstonekit_SameLimbs.l0])
   | succ k1=>
    have H:=HA.out
    clear HA
    simp only [whetstonekit_SameLimbs.l0] at H
    by_cases c4 : x5_1 < (l0.length : Int)
    ·rw [if_pos c4] at H
     have c4b0 : decide (x5_1 < (l0.length : Int)) = true:=decide_eq_true c4
     clear c4
     by_cases c5 : 0≤x5_1
     ·rw [if_pos c5] at H
      have c5b0 : decide (0≤x5_1) = true:=decide_eq_true c5
      clear c5
      by_cases c6 : x5_1 < (l1.length : Int)
      ·rw [if_pos c6] at H
       have c6b0 : decide (x5_1 < (l1.length : Int)) = true:=decide_eq_true c6
       clear c6
       by_cases c7 : (rd l0 x5_1) = (rd l1 x5_1)
       ·rw [if_pos c7] at H
        have c7b0 : ((rd l0 x5_1) == (rd l1 x5_1)) = true:=beq_iff_eq.mpr c7
        have c7b1 : ((rd l0 x5_1) != (rd l1 x5_1)) = false:=bne_eq_false_iff_eq.mpr c7
        clear c7
        have H':=am H
        clear H
        have p101 : 0≤(x5_1 : Int):=of_decide_eq_true za
        have q101 : x5_1 < (l0.length : Int):=of_decide_eq_true za
        obtain⟨ad101,e101,hx101_0⟩:=Kd.at_int HR0.out x5_1 p101 q101
        cases e101
        replace p101:=eq_true p101
        replace q101:=eq_true q101
        have p102 : 0≤(x5_1 : Int):=of_decide_eq_true za
        have q102 : x5_1 < (l1.length : Int):=of_decide_eq_true za
        obtain⟨ad102,e102,hx102_0⟩:=Kd.at_int HR1.out x5_1 p102 q102
        cases e102
        replace p102:=eq_true p102
        replace q102:=eq_true q102
        go_wp2
        repeat (go_quiet (fail);try go_wp2)
        go_roundg k1
        case measure=>have:=HK1.out;omega
        case rel=>exact⟨(wrap64 (x5_1 + 1)),ze,H',⟨by have:=HK1.out;omega⟩,by repeat (first | exact Drawn0.refl _ | apply Drawn0.step)⟩
       ·rw [if_neg c7] at H
        have c7b0 : ((rd l0 x5_1) == (rd l1 x5_1)) = false:=beq_eq_false_iff_ne.mpr c7
        have c7b1 : ((rd l0 x5_1) != (rd l1 x5_1)) = true:=bne_iff_ne.mpr c7
        obtain rfl:=Option.some.inj H
        have p101 : 0≤(x5_1 : Int):=of_decide_eq_true za
        have q101 : x5_1 < (l0.length : Int):=of_decide_eq_true za
        obtain⟨ad101,e101,hx101_0⟩:=Kd.at_int HR0.out x5_1 p101 q101
        cases e101
        replace p101:=eq_true p101
        replace q101:=eq_true q101
        have p102 : 0≤(x5_1 : Int):=of_decide_eq_true za
        have q102 : x5_1 < (l1.length : Int):=of_decide_eq_true za
        obtain⟨ad102,e102,hx102_0⟩:=Kd.at_int HR1.out x5_1 p102 q102
        cases e102
        replace p102:=eq_true p102
        replace q102:=eq_true q102
        go_wp2
        repeat (go_quiet (fail);try go_wp2)
        go_ret
        exact⟨ze,by repeat (first | exact Drawn0.refl _ | apply Drawn0.step)⟩
      ·rw [if_neg c6] at H
       exact absurd H (by simp)
     ·rw [if_neg c5] at H
      exact absurd H (by simp)
    ·rw [if_neg c4] at H
     have c4b0 : decide (x5_1 < (l0.length : Int)) = false:=decide_eq_false c4
     clear c4
     obtain rfl:=Option.some.inj H
     go_wp2
     repeat (go_quiet (fail);try go_wp2)
     go_ret
     exact⟨ze,by repeat (first | exact Drawn0.refl _ | apply Drawn0.step)⟩
 ·rw [if_neg c3] at H
  have c3b0 : ((l0.length : Int) == (l1.length : Int)) = false:=beq_eq_false_iff_ne.mpr c3
  have c3b1 : ((l0.length : Int) != (l1.length : Int)) = true:=bne_iff_ne.mpr c3
  have c3b2 : (l0.length == l1.length) = false:=by first | simpa using c3 |(simp at c3 ⊢;omega)
  obtain rfl:=Option.some.inj H
  go_enter Tryd.func23,Tryd.ntmps23
  go_wp2
  repeat (go_quiet (fail);try go_wp2)
  go_ret
  exact⟨ze,by repeat (first | exact Drawn0.refl _ | apply Drawn0.step)⟩

/-! ### whetstonelaw01_same: function 10 -/
def whetstonelaw01_same.f (k : Nat) (l0 : List Int) (l1 : List Int) : Option (Bool):=(whetstonekit_SameLimbs.f k l0 l1).bind fun t103=>(some t103)
theorem whetstonelaw01_same.calls (k : Nat) (A0 : Option Addr) (c0 : Nat) (l0 : List Int) (A1 : Option Addr) (c1 : Nat) (l1 : List Int) (r : Bool) (w : World) (hr0 : Kd.C (Kd.int .u32) w A0 l0.length l0) (hc0 : l0.length≤c0) (hr1 : Kd.C (Kd.int .u32) w A1 l1.length l1) (hc1 : l1.length≤c1) (h : whetstonelaw01_same.f k l0 l1 = some r) :
  Calls Tryd.prog 10 #[.slice A0 l0.length c0,.slice A1 l1.length c1] w fun e w'=>e = .returned (.bool r)∧Drawn0 w w':=by
 have HR0:=am hr0
 have HC0:=am hc0
 clear hr0 hc0
 have HR1:=am hr1
 have HC1:=am hc1
 clear hr1 hc1
 have H : ((whetstonekit_SameLimbs.f k l0 l1).bind fun t103=>(some t103)) = some r:=h
 clear h
 replace H:=Option.bind_eq_some_iff.mp H
 obtain⟨t103,A30,H⟩:=H
 try dsimp only at H
 have A3:=am A30
 clear A30
 obtain rfl:=Option.some.inj H
 go_enter Tryd.func10,Tryd.ntmps10
 go_wp2_with (first |((with_reducible refine gate_callee (f:=23) rfl ?_);refine goesL_ (some 7) rfl rfl Tryd.func23 (by kernel_rfl) rfl #[.slice A0 l0.length c0,.slice A1 l1.length c1] rfl zl ?_;(with_reducible refine(whetstonekit_SameLimbs.calls k _ _ l0 _ _ l1 t103 _ ?side1 ?side2 ?side3 ?side4 A3.out).mono ?_);(case side1=>exact zC HR0.out);(case side2=>exact HC0.out);(case side3=>exact zC HR1.out);(case side4=>exact HC1.out);rintro e w' ⟨rfl,⟨nd,rfl⟩⟩;refine⟨_,rfl,?_⟩))
 go_ret
 exact⟨ze,by repeat (first | exact Drawn0.refl _ | apply Drawn0.step)⟩

/-! ### nat_digits_at: function 43 -/
def nat_digits_at.f (l0 : List Int) (a1 : Int) : Option (Int):=if a1≥0 then(if a1 < (l0.length : Int) then(if 0≤a1 then(some (rd l0 a1)) else(none)) else(some 0)) else(some 0)
theorem nat_digits_at.calls (A0 : Option Addr) (c0 : Nat) (l0 : List Int) (a1 : Int) (r : Int) (w : World) (hr0 : Kd.C (Kd.int .u64) w A0 l0.length l0) (hc0 : l0.length≤c0) (h : nat_digits_at.f l0 a1 = some r) :
  Calls Tryd.prog 43 #[.slice A0 l0.length c0,.int .i64 a1] w fun e w'=>e = .returned (.int .u64 r)∧Drawn0 w w':=by
 have HR0:=am hr0
 have HC0:=am hc0
 clear hr0 hc0
 have H : (if a1≥0 then(if a1 < (l0.length : Int) then(if 0≤a1 then(some (rd l0 a1)) else(none)) else(some 0)) else(some 0)) = some r:=h
 clear h
 by_cases c3 : a1≥0
 ·rw [if_pos c3] at H
  have c3b0 : decide (0≤a1) = true:=decide_eq_true c3
  clear c3
  by_cases c4 : a1 < (l0.length : Int)
  ·rw [if_pos c4] at H
   have c4b0 : decide (a1 < (l0.length : Int)) = true:=decide_eq_true c4
   clear c4
   by_cases c5 : 0≤a1
   ·rw [if_pos c5] at H
    have c5b0 : decide (0≤a1) = true:=decide_eq_true c5
    clear c5
    obtain rfl:=Option.some.inj H
    have p104 : 0≤(a1 : Int):=of_decide_eq_true za
    have q104 : a1 < (l0.length : Int):=of_decide_eq_true za
    obtain⟨ad104,e104,hx104_0⟩:=Kd.at_int HR0.out a1 p104 q104
    cases e104
    replace p104:=eq_true p104
    replace q104:=eq_true q104
    go_enter Tryd.func43,Tryd.ntmps43
    go_wp2
    go_ret
    exact⟨ze,by repeat (first | exact Drawn0.refl _ | apply Drawn0.step)⟩
   ·rw [if_neg c5] at H
    exact absurd H (by simp)
  ·rw [if_neg c4] at H
   have c4b0 : decide (a1 < (l0.length : Int)) = false:=decide_eq_false c4
   clear c4
   obtain rfl:=Option.some.inj H
   go_enter Tryd.func43,Tryd.ntmps43
   go_wp2
   go_ret
   exact⟨ze,by repeat (first | exact Drawn0.refl _ | apply Drawn0.step)⟩
 ·rw [if_neg c3] at H
  have c3b0 : decide (0≤a1) = false:=decide_eq_false c3
  clear c3
  obtain rfl:=Option.some.inj H
  go_enter Tryd.func43,Tryd.ntmps43
  go_wp2
  go_ret
  exact⟨ze,by repeat (first | exact Drawn0.refl _ | apply Drawn0.step)⟩

/-! ### nat_digits_top: function 42 -/
def nat_digits_top.f (l0 : List Int) : Option (Int):=(nat_digits_at.f l0 (wrap64 ((l0.length : Int) - 1))).bind fun t105=>(some t105)
theorem nat_digits_top.calls (A0 : Option Addr) (c0 : Nat) (l0 : List Int) (r : Int) (w : World) (hr0 : Kd.C (Kd.int .u64) w A0 l0.length l0) (hc0 : l0.length≤c0) (h : nat_digits_top.f l0 = some r) :
  Calls Tryd.prog 42 #[.slice A0 l0.length c0] w fun e w'=>e = .returned (.int .u64 r)∧Drawn0 w w':=by
 have HR0:=am hr0
 have HC0:=am hc0
 clear hr0 hc0
 have H : ((nat_digits_at.f l0 (wrap64 ((l0.length : Int) - 1))).bind fun t105=>(some t105)) = some r:=h
 clear h
 replace H:=Option.bind_eq_some_iff.mp H
 obtain⟨t105,A20,H⟩:=H
 try dsimp only at H
 have A2:=am A20
 clear A20
 obtain rfl:=Option.some.inj H
 go_enter Tryd.func42,Tryd.ntmps42
 go_wp2_with (first |((with_reducible refine gate_callee (f:=43) rfl ?_);refine goesL_ (some 7) rfl rfl Tryd.func43 (by kernel_rfl) rfl #[.slice A0 l0.length c0,.int .i64 (wrap64 ((l0.length : Int) - 1))] rfl zl ?_;(with_reducible refine(nat_digits_at.calls _ _ l0 (wrap64 ((l0.length : Int) - 1)) t105 _ ?side1 ?side2 A2.out).mono ?_);(case side1=>exact zC HR0.out);(case side2=>exact HC0.out);rintro e w' ⟨rfl,⟨nd,rfl⟩⟩;refine⟨_,rfl,?_⟩))
 go_ret
 exact⟨ze,by repeat (first | exact Drawn0.refl _ | apply Drawn0.step)⟩

/-! ### nat_carried: function 38 -/
mutual
def nat_carried.l0 : Nat→List Int→List Int→Int→Int→Option (List Int)
 | 0,_,_,_,_=>none
 | k + 1,x0,x3,x4,x5=>if x5 < (x0.length : Int) then((nat_digits_at.f x0 x5).bind fun t110=>(if x3.length < 17592186044416 then(nat_carried.l0 k x0 (x3 ++ [Int.tmod (IntKind.u64.wrap (x4 + t110)) 1000000000]) (IntKind.u64.wrap (Int.tdiv (IntKind.u64.wrap (x4 + t110)) 1000000000)) (wrap64 (x5 + 1))) else(none))) else(if x4 > 0 then((nat_digits_at.f x0 x5).bind fun t114=>(if x3.length < 17592186044416 then(nat_carried.l0 k x0 (x3 ++ [Int.tmod (IntKind.u64.wrap (x4 + t114)) 1000000000]) (IntKind.u64.wrap (Int.tdiv (IntKind.u64.wrap (x4 + t114)) 1000000000)) (wrap64 (x5 + 1))) else(none))) else(nat_carried.l1 k x3))
def nat_carried.l1 : Nat→List Int→Option (List Int)
 | 0,_=>none
 | k + 1,x3=>if (x3.length : Int) > 0 then((nat_digits_top.f x3).bind fun t118=>(if t118 = 0 then(if 0≤(wrap64 ((x3.length : Int) - 1)) then(if (wrap64 ((x3.length : Int) - 1))≤(x3.length : Int) then(nat_carried.l1 k (x3.take ((wrap64 ((x3.length : Int) - 1)) : Int).toNat)) else(none)) else(none)) else(some x3))) else(some x3)
end
def nat_carried.f (k : Nat) (l0 : List Int) : Option (List Int):=if 0≤(wrap64 ((l0.length : Int) + 2)) then(if (wrap64 ((l0.length : Int) + 2) : Int).toNat≤35184372088832 then(nat_carried.l0 k l0 (([] : List Int)) 0 0) else(none)) else(none)
theorem nat_carried.calls (k : Nat) (A0 : Option Addr) (c0 : Nat) (l0 : List Int) (r : List Int) (w : World) (hr0 : Kd.C (Kd.int .u64) w A0 l0.length l0) (hc0 : l0.length≤c0) (h : nat_carried.f k l0 = some r) :
  Calls Tryd.prog 38 #[.slice A0 l0.length c0] w fun e w'=>∃ v0_ : Value,e = .returned (.agg #[v0_])∧Kd.R (Kd.int .u64) 55 w' w.heap.size (fun _=>True) v0_ r∧Below w.heap.size w w':=by
 have hu47:=Tryd.underlying47
 have HR0:=am hr0
 have HC0:=am hc0
 clear hr0 hc0
 have HB:=am (Below.refl w.heap.size w)
 have H : (if 0≤(wrap64 ((l0.length : Int) + 2)) then(if (wrap64 ((l0.length : Int) + 2) : Int).toNat≤35184372088832 then(nat_carried.l0 k l0 (([] : List Int)) 0 0) else(none)) else(none)) = some r:=h
 clear h
 obtain⟨ji2,hji2⟩ : ∃ j_ : Int,(wrap64 ((l0.length : Int) + 2)) = j_:=⟨_,rfl⟩
 replace H : (if 0≤(ji2) then(if (ji2 : Int).toNat≤35184372088832 then(nat_carried.l0 k l0 (([] : List Int)) 0 0) else(none)) else(none)) = some r:=by first |(rw [hji2] at H;exact H) |(simp only [hji2] at H ⊢;exact H)
 have hji2w : (IntKind.i64.wrap ((l0.length : Int) + 2)) = ji2:=(i64_w _).trans hji2
 by_cases c3 : 0≤(ji2)
 ·rw [if_pos c3] at H
  have c3b0:=eq_true c3
  have c3b1 : decide (0≤(ji2)) = true:=decide_eq_true c3
  clear c3
  by_cases c4 : (ji2 : Int).toNat≤35184372088832
  ·rw [if_pos c4] at H
   have c4b0:=eq_true c4
   have c4b1 : decide ((ji2 : Int).toNat≤35184372088832) = true:=decide_eq_true c4
   clear c4
   obtain⟨y107,hy107⟩ : ∃ y_ : List Int,y_ = (([] : List Int)):=⟨_,rfl⟩
   replace H : (nat_carried.l0 k l0 y107 0 0) = some r:=by first |(rw [hy107];with_reducible exact H) |(have H2_:=(Option.bind_some _ _).symm.trans H;rw [hy107];with_reducible exact H2_) |(have H2_:=(Option.bind_some _ _).symm.trans H;with_reducible exact H2_) | with_reducible exact H |(rw [hy107];exact H) | exact H
   have Ny107:=am hy107
   clear hy107
   have H':=am H
   clear H
   go_enter Tryd.func38,Tryd.ntmps38
   go_wp2_with (first |((with_reducible refine gate_dst (N:=2) rfl ?_);refine box_event ?hg (N:=2) ?hd (cs:=#[.slice none 0 0]) (t:=47) ?hr ?_;(case hd=>rfl);(case hg=>rfl);(case hr=>exact zh);intro gb106 hg w5 hbox hb;have BK106:=am (hbox);have GW106:=gw w hg;have GE106:=gw w hg;replace HB:=am (below_step zb hb);clear hb hbox hg) |((with_reducible refine gate_dst (N:=9) rfl ?_);refine X_make0 (Kd.int .u64) _ 55 rfl (N:=9) rfl 45 _ _ rfl ji2 rfl rfl Tryd.underlying45 (.int .u64 0) 8 info55 rfl (by decide) (by omega) (ok:=fun _=>True) trivial (of_decide_eq_true za) (Nat.le_trans (Nat.mul_le_mul_right _ (of_decide_eq_true za : ji2.toNat≤35184372088832)) (by omega)) (Below.refl _ _) (Nat.le_refl _) ?_;intro v108 w6 ho7 hb hg_ hnew_;clear hg_ hnew_;(first | rw [← Ny107.out] at ho7 |(simp only [Int.reduceToNat] at ho7;rw [← Ny107.out] at ho7));have HO109:=am (Kd.R_lower ho7 (below_size zb));replace BK106:=kb BK106 hb;replace HB:=am (below_step zb hb);clear hb ho7))
   go_loopg [3,4,5] k (fun kq v3 v4 v5 w'=>∃ (x3_1 : List Int) (x4_1 : Int) (x5_1 : Int),v4 = .int .u64 x4_1∧v5 = .int .i64 x5_1∧Aside0 (nat_carried.l0 kq l0 x3_1 x4_1 x5_1 = some r)∧Aside0 (kq≤k)∧Aside0 (Kd.R (Kd.int .u64) 55 w' w.heap.size (fun _=>True) v3 x3_1)∧Aside0 (w'.heap[gb106]? = some (.cells #[(.slice none 0 0)] 47 (0,0)))∧Aside0 (Below w.heap.size w w'))
   case atStart=>exact⟨(y107),(0),(0),ze,ze,H',⟨Nat.le_refl _⟩,⟨zR HO109.out⟩,⟨zk BK106.out⟩,⟨zb⟩⟩
   case round=>
    clear H'
    try clear p2
    try clear c3
    try clear c3b0
    try clear c3b1
    try clear c4
    try clear c4b0
    try clear c4b1
    try clear p6
    obtain⟨x3_1,x4_1,x5_1,rfl,rfl,HA,HK1,HO_3,BK106,HB⟩:=hrel
    cases gk with
    | zero=>exact absurd HA.out (by simp [nat_carried.l0])
    | succ k1=>
     have H:=HA.out
     clear HA
     simp only [nat_carried.l0] at H
     by_cases c8 : x5_1 < (l0.length : Int)
     ·rw [if_pos c8] at H
      have c8b0 : decide (x5_1 < (l0.length : Int)) = true:=decide_eq_true c8
      clear c8
      replace H:=Option.bind_eq_some_iff.mp H
      obtain⟨t110,A90,H⟩:=H
      try dsimp only at H
      have A9:=am A90
      clear A90
      by_cases c10 : x3_1.length < 17592186044416
      ·rw [if_pos c10] at H
       have LMc10:=am c10
       clear c10
       obtain⟨y111,hy111⟩ : ∃ y_ : List Int,y_ = (x3_1 ++ [Int.tmod (IntKind.u64.wrap (x4_1 + t110)) 1000000000]):=⟨_,rfl⟩
       replace H : (nat_carried.l0 k1 l0 y111 (IntKind.u64.wrap (Int.tdiv (IntKind.u64.wrap (x4_1 + t110)) 1000000000)) (wrap64 (x5_1 + 1))) = some r:=by first |(rw [hy111];with_reducible exact H) |(have H2_:=(Option.bind_some _ _).symm.trans H;rw [hy111];with_reducible exact H2_) |(have H2_:=(Option.bind_some _ _).symm.trans H;with_reducible exact H2_) | with_reducible exact H |(rw [hy111];exact H) | exact H
       have Ny111:=am hy111
       clear hy111
       have H':=am H
       clear H
       go_wp2_with (first |((with_reducible refine gate_callee (f:=43) rfl ?_);refine goesL_ (some 23) rfl rfl Tryd.func43 (by kernel_rfl) rfl #[.slice A0 l0.length c0,.int .i64 x5_1] rfl zl ?_;(with_reducible refine(nat_digits_at.calls _ _ l0 x5_1 t110 _ ?side1 ?side2 A9.out).mono ?_);(case side1=>repeat (first | exact(Kd.C_below HR0.out HB.out) |(with_reducible refine Kd.C_alloc ?_ _) |(with_reducible refine Kd.C_drewN ?_ _) |(with_reducible refine Kd.C_drew ?_)));(case side2=>exact HC0.out);rintro e w' ⟨rfl,⟨nd,rfl⟩⟩;refine⟨_,rfl,?_⟩) |((with_reducible refine gate_builtin (b:=.append) (xs:=#[.tmp 25,.tmp 28]) rfl ?_);at_builtin;refine Kd.R_append (Kd.int .u64) (w0:=w) w.heap.size rfl (.tmp 25) (.tmp 28) 45 55 (.int .u64 0) 8 rfl Tryd.underlying45 info55 rfl (by decide) (by omega) u3 x3_1 (Int.tmod (IntKind.u64.wrap (x4_1 + t110)) 1000000000) [.int .u64 (Int.tmod (IntKind.u64.wrap (x4_1 + t110)) 1000000000)] (fun _=>True) (fun _=>False) rfl rfl ?aP (fun _ hk=>hk.elim) ?aF ?aO ?aB ?aS ?aL ?_;(case aP=>exact rfl);(case aB=>exact zb);(case aF=>exact(fun _ _=>trivial));(case aO=>exact(zR HO_3.out));(case aS=>exact(below_size zb));(case aL=>have:=LMc10.out;omega);intro v112 w11 ho hb hg hat;rw [← Ny111.out] at ho;replace BK106:=am (blk_grown (zk BK106.out) hg (Kd.R_ne HO_3.out BK106.out (by decide)));replace HB:=am (hb);have HO113:=am (ho);clear HO_3;clear ho hb hg hat))
       go_roundg k1
       case measure=>have:=HK1.out;omega
       case rel=>exact⟨(y111),(IntKind.u64.wrap (Int.tdiv (IntKind.u64.wrap (x4_1 + t110)) 1000000000)),(wrap64 (x5_1 + 1)),ze,ze,H',⟨by have:=HK1.out;omega⟩,⟨zR HO113.out⟩,⟨zk BK106.out⟩,⟨zb⟩⟩
      ·rw [if_neg c10] at H
       exact absurd H (by simp)
     ·rw [if_neg c8] at H
      have c8b0 : decide (x5_1 < (l0.length : Int)) = false:=decide_eq_false c8
      clear c8
      by_cases c12 : x4_1 > 0
      ·rw [if_pos c12] at H
       have c12b0 : decide (0 < x4_1) = true:=decide_eq_true c12
       clear c12
       replace H:=Option.bind_eq_some_iff.mp H
       obtain⟨t114,A130,H⟩:=H
       try dsimp only at H
       have A13:=am A130
       clear A130
       by_cases c14 : x3_1.length < 17592186044416
       ·rw [if_pos c14] at H
        have LMc14:=am c14
        clear c14
        obtain⟨y115,hy115⟩ : ∃ y_ : List Int,y_ = (x3_1 ++ [Int.tmod (IntKind.u64.wrap (x4_1 + t114)) 1000000000]):=⟨_,rfl⟩
        replace H : (nat_carried.l0 k1 l0 y115 (IntKind.u64.wrap (Int.tdiv (IntKind.u64.wrap (x4_1 + t114)) 1000000000)) (wrap64 (x5_1 + 1))) = some r:=by first |(rw [hy115];with_reducible exact H) |(have H2_:=(Option.bind_some _ _).symm.trans H;rw [hy115];with_reducible exact H2_) |(have H2_:=(Option.bind_some _ _).symm.trans H;with_reducible exact H2_) | with_reducible exact H |(rw [hy115];exact H) | exact H
        have Ny115:=am hy115
        clear hy115
        have H':=am H
        clear H
        go_wp2_with (first |((with_reducible refine gate_callee (f:=43) rfl ?_);refine goesL_ (some 23) rfl rfl Tryd.func43 (by kernel_rfl) rfl #[.slice A0 l0.length c0,.int .i64 x5_1] rfl zl ?_;(with_reducible refine(nat_digits_at.calls _ _ l0 x5_1 t114 _ ?side1 ?side2 A13.out).mono ?_);(case side1=>repeat (first | exact(Kd.C_below HR0.out HB.out) |(with_reducible refine Kd.C_alloc ?_ _) |(with_reducible refine Kd.C_drewN ?_ _) |(with_reducible refine Kd.C_drew ?_)));(case side2=>exact HC0.out);rintro e w' ⟨rfl,⟨nd,rfl⟩⟩;refine⟨_,rfl,?_⟩) |((with_reducible refine gate_builtin (b:=.append) (xs:=#[.tmp 25,.tmp 28]) rfl ?_);at_builtin;refine Kd.R_append (Kd.int .u64) (w0:=w) w.heap.size rfl (.tmp 25) (.tmp 28) 45 55 (.int .u64 0) 8 rfl Tryd.underlying45 info55 rfl (by decide) (by omega) u3 x3_1 (Int.tmod (IntKind.u64.wrap (x4_1 + t114)) 1000000000) [.int .u64 (Int.tmod (IntKind.u64.wrap (x4_1 + t114)) 1000000000)] (fun _=>True) (fun _=>False) rfl rfl ?aP (fun _ hk=>hk.elim) ?aF ?aO ?aB ?aS ?aL ?_;(case aP=>exact rfl);(case aB=>exact zb);(case aF=>exact(fun _ _=>trivial));(case aO=>exact(zR HO_3.out));(case aS=>exact(below_size zb));(case aL=>have:=LMc14.out;omega);intro v116 w15 ho hb hg hat;rw [← Ny115.out] at ho;replace BK106:=am (blk_grown (zk BK106.out) hg (Kd.R_ne HO_3.out BK106.out (by decide)));replace HB:=am (hb);have HO117:=am (ho);clear HO_3;clear ho hb hg hat))
        go_roundg k1
        case measure=>have:=HK1.out;omega
        case rel=>exact⟨(y115),(IntKind.u64.wrap (Int.tdiv (IntKind.u64.wrap (x4_1 + t114)) 1000000000)),(wrap64 (x5_1 + 1)),ze,ze,H',⟨by have:=HK1.out;omega⟩,⟨zR HO117.out⟩,⟨zk BK106.out⟩,⟨zb⟩⟩
       ·rw [if_neg c14] at H
        exact absurd H (by simp)
      ·rw [if_neg c12] at H
       have c12b0 : decide (0 < x4_1) = false:=decide_eq_false c12
       clear c12
       have H':=am H
       clear H
       go_wp2
       go_loopg [3] k1 (fun kq v3 w'=>∃ (x3_2 : List Int),Aside0 (nat_carried.l1 kq x3_2 = some r)∧Aside0 (kq≤k1)∧Aside0 (Kd.R (Kd.int .u64) 55 w' w.heap.size (fun _=>True) v3 x3_2)∧Aside0 (w'.heap[gb106]? = some (.cells #[(.slice none 0 0)] 47 (0,0)))∧Aside0 (Below w.heap.size w w'))
       case atStart=>exact⟨(x3_1),H',⟨Nat.le_refl _⟩,⟨zR HO_3.out⟩,⟨zk BK106.out⟩,⟨zb⟩⟩
       case round=>
        clear H'
        try clear c1
        try clear p2
        try clear c3
        try clear c3b0
        try clear c3b1
        try clear c4
        try clear c4b0
        try clear c4b1
        try clear p6
        try clear c8
        try clear c8b0
        try clear c10
        try clear c12
        try clear c12b0
        try clear c14
        try clear p2
        try clear p6
        obtain⟨x3_2,HA,HK2,HO_3,BK106,HB⟩:=hrel
        cases gk with
        | zero=>exact absurd HA.out (by simp [nat_carried.l1])
        | succ k2=>
         have H:=HA.out
         clear HA
         simp only [nat_carried.l1] at H
         by_cases c16 : (x3_2.length : Int) > 0
         ·rw [if_pos c16] at H
          have c16b0 : decide (0 < (x3_2.length : Int)) = true:=decide_eq_true c16
          have c16b1 : decide (0 < x3_2.length) = true:=decide_eq_true (by omega)
          clear c16
          replace H:=Option.bind_eq_some_iff.mp H
          obtain⟨t118,A170,H⟩:=H
          try dsimp only at H
          have A17:=am A170
          clear A170
          by_cases c18 : t118 = 0
          ·rw [if_pos c18] at H
           have c18b0 : (t118 == 0) = true:=beq_iff_eq.mpr c18
           have c18b1 : (t118 != 0) = false:=bne_eq_false_iff_eq.mpr c18
           clear c18
           obtain⟨ji19,hji19⟩ : ∃ j_ : Int,(wrap64 ((x3_2.length : Int) - 1)) = j_:=⟨_,rfl⟩
           replace H : (if 0≤(ji19) then(if (ji19)≤(x3_2.length : Int) then(nat_carried.l1 k2 (x3_2.take ((ji19) : Int).toNat)) else(none)) else(none)) = some r:=by first |(rw [hji19] at H;exact H) |(simp only [hji19] at H ⊢;exact H)
           (try rw [hji19] at A17)
           have hji19w : (IntKind.i64.wrap ((x3_2.length : Int) - 1)) = ji19:=(i64_w _).trans hji19
           by_cases c20 : 0≤(ji19)
           ·rw [if_pos c20] at H
            have c20b0:=eq_true c20
            have c20b1 : decide (0≤(ji19)) = true:=decide_eq_true c20
            clear c20
            by_cases c21 : (ji19)≤(x3_2.length : Int)
            ·rw [if_pos c21] at H
             have c21b0:=eq_true c21
             have c21b1 : decide ((ji19)≤(x3_2.length : Int)) = true:=decide_eq_true c21
             clear c21
             obtain⟨y119,hy119⟩ : ∃ y_ : List Int,y_ = (x3_2.take ((ji19) : Int).toNat):=⟨_,rfl⟩
             replace H : (nat_carried.l1 k2 y119) = some r:=by first |(rw [hy119];with_reducible exact H) |(have H2_:=(Option.bind_some _ _).symm.trans H;rw [hy119];with_reducible exact H2_) |(have H2_:=(Option.bind_some _ _).symm.trans H;with_reducible exact H2_) | with_reducible exact H |(rw [hy119];exact H) | exact H
             have Ny119:=am hy119
             clear hy119
             have H':=am H
             clear H
             obtain⟨Ao22,co22,eo22⟩:=Kd.R_slice HO_3.out
             subst eo22
             go_wp2_with (first |(go_at_call 42;(with_reducible refine(nat_digits_top.calls _ _ x3_2 t118 _ ?side1 ?side2 A17.out).mono ?_);(case side1=>exact zC (Kd.R_reads' HO_3.out).2.2);(case side2=>exact(Kd.R_reads' HO_3.out).2.1);rintro e w' ⟨rfl,⟨nd,rfl⟩⟩;have q23 : ((ji19) : Int)≤((x3_2.length : Int) : Int):=of_decide_eq_true za;obtain⟨i023,hi023,_,hsz23,_⟩:=info_parts info55;have hcut23:=cut_to (P:=Tryd.prog) 45 55 .i64 Tryd.underlying45 hi023 Ao22 x3_2.length co22 (ji19) (of_decide_eq_true za) q23 (Kd.R_reads' HO_3.out).2.1;have hr23:=Kd.R_take (m:=((ji19) : Int).toNat) HO_3.out (by omega);have hy23 : y119.length = ((ji19) : Int).toNat:=(by rw [Ny119.out,List.length_take];omega);rw [← Ny119.out] at hr23;rw [← hy23] at hr23 hcut23;clear hy23 hi023 hsz23 HO_3;have HO121:=am hr23;clear hr23;replace q23:=eq_true q23))
             go_roundg k2
             case measure=>have:=HK1.out;have:=HK2.out;omega
             case rel=>exact⟨(y119),H',⟨by have:=HK1.out;have:=HK2.out;omega⟩,⟨zR HO121.out⟩,⟨zk BK106.out⟩,⟨zb⟩⟩
            ·rw [if_neg c21] at H
             exact absurd H (by simp)
           ·rw [if_neg c20] at H
            exact absurd H (by simp)
          ·rw [if_neg c18] at H
           have c18b0 : (t118 == 0) = false:=beq_eq_false_iff_ne.mpr c18
           have c18b1 : (t118 != 0) = true:=bne_iff_ne.mpr c18
           obtain rfl:=Option.some.inj H
           obtain⟨Ao24,co24,eo24⟩:=Kd.R_slice HO_3.out
           subst eo24
           go_wp2_with (first |(go_at_call 42;(with_reducible refine(nat_digits_top.calls _ _ x3_2 t118 _ ?side1 ?side2 A17.out).mono ?_);(case side1=>exact zC (Kd.R_reads' HO_3.out).2.2);(case side2=>exact(Kd.R_reads' HO_3.out).2.1);rintro e w' ⟨rfl,⟨nd,rfl⟩⟩;(try (rw [drewN_self wr];generalize hq_ : World.drewN wr _ = wr;have n0_ : Aside0 (Kd.R (Kd.int .u64) 55 wr w.heap.size (fun _=>True) (.slice Ao24 x3_2.length co24) x3_2):=⟨by rw [← hq_];exact(zR HO_3.out)⟩;have n1_ : Aside0 (wr.heap[gb106]? = some (.cells #[.slice none 0 0] 47 (0,0))):=⟨by rw [← hq_];exact(zk BK106.out)⟩;have n2_ : Aside0 (Below w.heap.size w wr):=⟨by rw [← hq_];exact zb⟩;clear HO_3 BK106 HB hq_;have HO_3:=n0_;have BK106:=n1_;have HB:=n2_;clear n0_ n1_ n2_));have hcz25_0 : wr.cell? ⟨gb106,0,none⟩ = some (.slice none 0 0):=(blk_cell BK106.out 0).trans rfl;have hfz25_0:=blk_frozen BK106.out 0))
           refine bodyPost_ret (results_cell_row rfl _ _ gb106 47 #[.slice Ao24 x3_2.length co24] (0,0) _ rfl (by refine zk ?_;refine blk_put (cs:=#[.slice none 0 0]) ?_ 0 _ rfl;refine zk ?_;exact BK106.out) Tryd.underlying47 rfl (by kernel_rfl)) rfl ?_
           exact⟨_,by first | rfl |(simp [errW_none,errW_some] <;> rfl) |(simp only [← hji2];first | rfl |(simp [errW_none,errW_some] <;> rfl)) |(simp [*,errW_none,errW_some] <;> rfl),by refine zR ?_;exact Kd.R_mono (Kd.R_far (p:=⟨gb106,0,none⟩) (Kd.R_types HO_3.out BK106.out (by decide)) (fun _ hk=>hk.2) (.slice Ao24 x3_2.length co24)) (fun _ hk=>trivial),zb⟩
         ·rw [if_neg c16] at H
          have c16b0 : decide (0 < (x3_2.length : Int)) = false:=decide_eq_false c16
          have c16b1 : decide (0 < x3_2.length) = false:=decide_eq_false (by omega)
          clear c16
          obtain rfl:=Option.some.inj H
          obtain⟨Ao26,co26,eo26⟩:=Kd.R_slice HO_3.out
          subst eo26
          have hcz27_0 : wr.cell? ⟨gb106,0,none⟩ = some (.slice none 0 0):=(blk_cell BK106.out 0).trans rfl
          have hfz27_0:=blk_frozen BK106.out 0
          go_wp2
          refine bodyPost_ret (results_cell_row rfl _ _ gb106 47 #[.slice Ao26 x3_2.length co26] (0,0) _ rfl (by refine zk ?_;refine blk_put (cs:=#[.slice none 0 0]) ?_ 0 _ rfl;refine zk ?_;exact BK106.out) Tryd.underlying47 rfl (by kernel_rfl)) rfl ?_
          exact⟨_,by first | rfl |(simp [errW_none,errW_some] <;> rfl) |(simp only [← hji2];first | rfl |(simp [errW_none,errW_some] <;> rfl)) |(simp [*,errW_none,errW_some] <;> rfl),by refine zR ?_;exact Kd.R_mono (Kd.R_far (p:=⟨gb106,0,none⟩) (Kd.R_types HO_3.out BK106.out (by decide)) (fun _ hk=>hk.2) (.slice Ao26 x3_2.length co26)) (fun _ hk=>trivial),zb⟩
  ·rw [if_neg c4] at H
   exact absurd H (by simp)
 ·rw [if_neg c3] at H
  exact absurd H (by simp)

/-! ### nat_of: function 31 -/
def nat_of.l0 : Nat→List Int→List Int→Int→Int→Option (List Int)
 | 0,_,_,_,_=>none
 | k + 1,x3,x9,x10,x11=>if x11 < x10 then(if 0≤x11 then(if x11 < (x9.length : Int) then(if x11 < (x3.length : Int) then(nat_of.l0 k (x3.set (x11 : Int).toNat (IntKind.u64.wrap (rd x9 x11))) x9 x10 (wrap64 (x11 + 1))) else(none)) else(none)) else(none)) else((nat_carried.f k x3).bind fun t128=>(some t128))
def nat_of.f (k : Nat) (l0 : List Int) : Option (List Int):=if 0≤(l0.length : Int) then(if ((l0.length : Int) : Int).toNat≤35184372088832 then(nat_of.l0 k (List.replicate ((l0.length : Int) : Int).toNat 0) l0 (l0.length : Int) 0) else(none)) else(none)
theorem nat_of.calls (k : Nat) (A0 : Option Addr) (c0 : Nat) (l0 : List Int) (r : List Int) (w : World) (hr0 : Kd.C (Kd.int .u32) w A0 l0.length l0) (hc0 : l0.length≤c0) (h : nat_of.f k l0 = some r) :
  Calls Tryd.prog 31 #[.slice A0 l0.length c0] w fun e w'=>∃ v0_ : Value,e = .returned (.agg #[v0_])∧Kd.R (Kd.int .u64) 55 w' w.heap.size (fun _=>True) v0_ r∧Below w.heap.size w w':=by
 have hu47:=Tryd.underlying47
 have HR0:=am hr0
 have HC0:=am hc0
 clear hr0 hc0
 have HB:=am (Below.refl w.heap.size w)
 have H : (if 0≤(l0.length : Int) then(if ((l0.length : Int) : Int).toNat≤35184372088832 then(nat_of.l0 k (List.replicate ((l0.length : Int) : Int).toNat 0) l0 (l0.length : Int) 0) else(none)) else(none)) = some r:=h
 clear h
 by_cases c2 : 0≤(l0.length : Int)
 ·rw [if_pos c2] at H
  have c2b0:=eq_true c2
  have c2b1 : decide (0≤(l0.length : Int)) = true:=decide_eq_true c2
  clear c2
  by_cases c3 : ((l0.length : Int) : Int).toNat≤35184372088832
  ·rw [if_pos c3] at H
   have c3b0:=eq_true c3
   have c3b1 : decide (((l0.length : Int) : Int).toNat≤35184372088832) = true:=decide_eq_true c3
   clear c3
   obtain⟨y123,hy123⟩ : ∃ y_ : List Int,y_ = (List.replicate ((l0.length : Int) : Int).toNat 0):=⟨_,rfl⟩
   replace H : (nat_of.l0 k y123 l0 (l0.length : Int) 0) = some r:=by first |(rw [hy123];with_reducible exact H) |(have H2_:=(Option.bind_some _ _).symm.trans H;rw [hy123];with_reducible exact H2_) |(have H2_:=(Option.bind_some _ _).symm.trans H;with_reducible exact H2_) | with_reducible exact H |(rw [hy123];exact H) | exact H
   have Ny123:=am hy123
   clear hy123
   have H':=am H
   clear H
   go_enter Tryd.func31,Tryd.ntmps31
   go_wp2_with (first |((with_reducible refine gate_dst (N:=2) rfl ?_);refine box_event ?hg (N:=2) ?hd (cs:=#[.slice none 0 0]) (t:=47) ?hr ?_;(case hd=>rfl);(case hg=>rfl);(case hr=>exact zh);intro gb122 hg w4 hbox hb;have BK122:=am (hbox);have GW122:=gw w hg;have GE122:=gw w hg;replace HB:=am (below_step zb hb);clear hb hbox hg) |((with_reducible refine gate_dst (N:=8) rfl ?_);refine Kd.R_make (Kd.int .u64) _ 55 rfl (N:=8) rfl 45 _ _ rfl (l0.length : Int) rfl rfl Tryd.underlying45 (.int .u64 0) 8 info55 rfl (by decide) (by omega) 0 (ok:=fun _=>True) (okp:=fun _=>True) rfl (fun _ hk=>hk) trivial (of_decide_eq_true za) (Nat.le_trans (Nat.mul_le_mul_right _ (of_decide_eq_true za : (l0.length : Int).toNat≤35184372088832)) (by omega)) (Below.refl _ _) (Nat.le_refl _) ?_;intro v124 w5 ho6 hb hg_ hnew_;clear hg_ hnew_;(first | rw [← Ny123.out] at ho6 |(simp only [Int.reduceToNat] at ho6;rw [← Ny123.out] at ho6));have HO125:=am (Kd.R_lower ho6 (below_size zb));replace BK122:=kb BK122 hb;replace HB:=am (below_step zb hb);clear hb ho6))
   go_loopg [11] k (fun kq v11 w'=>∃ (x3_1 : List Int) (x11_1 : Int),v11 = .int .i64 x11_1∧Aside0 (nat_of.l0 kq x3_1 l0 (l0.length : Int) x11_1 = some r)∧Aside0 (kq≤k)∧Aside0 (Kd.R (Kd.int .u64) 55 w' w.heap.size (fun _=>True) v124 x3_1)∧Aside0 (w'.heap[gb122]? = some (.cells #[(.slice none 0 0)] 47 (0,0)))∧Aside0 (Below w.heap.size w w'))
   case atStart=>exact⟨(y123),(0),ze,H',⟨Nat.le_refl _⟩,⟨zR HO125.out⟩,⟨zk BK122.out⟩,⟨zb⟩⟩
   case round=>
    clear H'
    try clear c2
    try clear c2b0
    try clear c2b1
    try clear p2
    try clear c3
    try clear c3b0
    try clear c3b1
    obtain⟨x3_1,x11_1,rfl,HA,HK1,HO_3,BK122,HB⟩:=hrel
    cases gk with
    | zero=>exact absurd HA.out (by simp [nat_of.l0])
    | succ k1=>
     have H:=HA.out
     clear HA
     simp only [nat_of.l0] at H
     by_cases c7 : x11_1 < (l0.length : Int)
     ·rw [if_pos c7] at H
      have c7b0 : decide (x11_1 < (l0.length : Int)) = true:=decide_eq_true c7
      clear c7
      by_cases c8 : 0≤x11_1
      ·rw [if_pos c8] at H
       have c8b0 : decide (0≤x11_1) = true:=decide_eq_true c8
       clear c8
       by_cases c9 : x11_1 < (l0.length : Int)
       ·rw [if_pos c9] at H
        have c9b0 : decide (x11_1 < (l0.length : Int)) = true:=decide_eq_true c9
        clear c9
        by_cases c10 : x11_1 < (x3_1.length : Int)
        ·rw [if_pos c10] at H
         have c10b0 : decide (x11_1 < (x3_1.length : Int)) = true:=decide_eq_true c10
         clear c10
         obtain⟨y127,hy127⟩ : ∃ y_ : List Int,y_ = (x3_1.set (x11_1 : Int).toNat (IntKind.u64.wrap (rd l0 x11_1))):=⟨_,rfl⟩
         replace H : (nat_of.l0 k1 y127 l0 (l0.length : Int) (wrap64 (x11_1 + 1))) = some r:=by first |(rw [hy127];with_reducible exact H) |(have H2_:=(Option.bind_some _ _).symm.trans H;rw [hy127];with_reducible exact H2_) |(have H2_:=(Option.bind_some _ _).symm.trans H;with_reducible exact H2_) | with_reducible exact H |(rw [hy127];exact H) | exact H
         have Ny127:=am hy127
         clear hy127
         have H':=am H
         clear H
         have p126 : 0≤(x11_1 : Int):=of_decide_eq_true za
         have q126 : x11_1 < (l0.length : Int):=of_decide_eq_true za
         obtain⟨ad126,e126,hx126_0⟩:=Kd.at_int HR0.out x11_1 p126 q126
         cases e126
         replace hx126_0:=(HB.out.cell (World.block_lt_of_cell? w _ hx126_0)).trans hx126_0
         replace p126:=eq_true p126
         replace q126:=eq_true q126
         have p11 : 0≤(x11_1 : Int):=of_decide_eq_true za
         have q11 : (x11_1 : Int) < ((x3_1.length : Int) : Int):=of_decide_eq_true za
         obtain⟨go11,co11,eo11,gb11,gl11,cl11,HG11⟩:=Kd.R_form HO_3.out (by omega)
         (first | cases eo11 |(injection eo11 with ea_ en_ ec_;(first | subst ea_ |(injection ea_ with ea_;subst ea_));subst ec_;clear en_))
         have GB11:=am gb11
         have GG11:=am HG11
         clear gb11 gl11 HG11
         obtain⟨hx11_0,hf11_0⟩:=Kd.R_celln 0 HO_3.out (x11_1 : Int) p11 q11
         replace p11:=eq_true p11
         replace q11:=eq_true q11
         have HP12:=Kd.R_putg HO_3.out (x11_1 : Int) (IntKind.u64.wrap (rd l0 x11_1))
         go_wp2_with (first |((with_reducible refine gate_store (t:=55) (p:=20) rfl ?_);refine store_event (t:=55) (p:=20) (v:=?vo_w13) (w1:=(wr.setCell ⟨go11,(x11_1 : Int).toNat,none⟩ (.int .u64 (IntKind.u64.wrap (rd l0 x11_1))))) ?hg ?ho ?hn ?hr ?_;(case ho=>rfl);(case hg=>rfl);(case hn=>rfl);(case hr=>exact zh);intro w13 hw;have hg : wr.grownBy w13 (some go11):=(by rw [hw];exact HP12.2);have hp_ : Kd.R (Kd.int .u64) 55 w13 w.heap.size (fun _=>True) (.slice (some ⟨go11,0,none⟩) x3_1.length co11) y127:=(by rw [hw,Ny127.out];exact HP12.1);clear HP12;replace BK122:=am (blk_grown (zk BK122.out) hg (Kd.R_ne HO_3.out BK122.out (by decide)));replace HO_3:=am (hp_);replace HB:=am ((by rw [hw];exact below_set (HB.out) GB11.out : Below w.heap.size w w13));clear hg hw hp_))
         go_roundg k1
         case measure=>have:=HK1.out;omega
         case rel=>exact⟨(y127),(wrap64 (x11_1 + 1)),ze,H',⟨by have:=HK1.out;omega⟩,⟨zR HO_3.out⟩,⟨zk BK122.out⟩,⟨zb⟩⟩
        ·rw [if_neg c10] at H
         exact absurd H (by simp)
       ·rw [if_neg c9] at H
        exact absurd H (by simp)
      ·rw [if_neg c8] at H
       exact absurd H (by simp)
     ·rw [if_neg c7] at H
      have c7b0 : decide (x11_1 < (l0.length : Int)) = false:=decide_eq_false c7
      clear c7
      replace H:=Option.bind_eq_some_iff.mp H
      obtain⟨t128,A140,H⟩:=H
      try dsimp only at H
      have A14:=am A140
      clear A140
      obtain rfl:=Option.some.inj H
      obtain⟨Ao15,co15,eo15⟩:=Kd.R_slice HO_3.out
      subst eo15
      go_wp2_with (first |((with_reducible refine gate_callee (f:=38) rfl ?_);refine goesL_ (some 23) rfl rfl Tryd.func38 (by kernel_rfl) rfl #[.slice Ao15 x3_1.length co15] rfl zl ?_;(with_reducible refine(nat_carried.calls k1 _ _ x3_1 t128 _ ?side1 ?side2 A14.out).mono ?_);(case side1=>exact zC (Kd.R_reads' HO_3.out).2.2);(case side2=>exact(Kd.R_reads' HO_3.out).2.1);rintro e w16 ⟨v129,rfl,ho0,hb⟩;refine⟨_,rfl,?_⟩;have HO130:=am (Kd.R_lower (Kd.R_new' ho0 (Kd.R_lt (zR HO_3.out))) (below_size zb));replace HO_3:=re HO_3 (Kd.R_base ho0) hb;replace BK122:=kb BK122 hb;replace HB:=am (below_step zb hb);(try clear hb);(try clear ho0);obtain⟨Ao17,co17,eo17⟩:=Kd.R_slice HO130.out;subst eo17;have hcz18_0 : w16.cell? ⟨gb122,0,none⟩ = some (.slice none 0 0):=(blk_cell BK122.out 0).trans rfl;have hfz18_0:=blk_frozen BK122.out 0))
      refine bodyPost_ret (results_cell_row rfl _ _ gb122 47 #[.slice Ao17 t128.length co17] (0,0) _ rfl (by refine zk ?_;refine blk_put (cs:=#[.slice none 0 0]) ?_ 0 _ rfl;refine zk ?_;exact BK122.out) Tryd.underlying47 rfl (by kernel_rfl)) rfl ?_
      exact⟨_,zf,by refine zR ?_;exact Kd.R_mono (Kd.R_far (p:=⟨gb122,0,none⟩) (Kd.R_types HO130.out BK122.out (by decide)) (fun _ hk=>hk.2) (.slice Ao17 t128.length co17)) (fun _ hk=>trivial),zb⟩
  ·rw [if_neg c3] at H
   exact absurd H (by simp)
 ·rw [if_neg c2] at H
  exact absurd H (by simp)

/-! ### nat_number_row: function 34 -/
def nat_number_row.l0 : Nat→List Int→List Int→Int→Int→Option (List Int)
 | 0,_,_,_,_=>none
 | k + 1,x3,x7,x8,x9=>if x9 < x8 then(if 0≤x9 then(if x9 < (x7.length : Int) then(if x3.length < 35184372088832 then(nat_number_row.l0 k (x3 ++ [(rd x7 x9) % 4294967296]) x7 x8 (wrap64 (x9 + 1))) else(none)) else(none)) else(none)) else(some x3)
def nat_number_row.f (k : Nat) (l0_0 : List Int) : Option (List Int):=nat_number_row.l0 k ([] : List Int) l0_0 (l0_0.length : Int) 0
theorem nat_number_row.calls (k : Nat) (A0_0 : Option Addr) (c0_0 : Nat) (l0_0 : List Int) (r : List Int) (w : World) (hr0_0 : Kd.C (Kd.int .u64) w A0_0 l0_0.length l0_0) (hc0_0 : l0_0.length≤c0_0) (h : nat_number_row.f k l0_0 = some r) :
  Calls Tryd.prog 34 #[.agg #[.slice A0_0 l0_0.length c0_0]] w fun e w'=>∃ v0_ : Value,e = .returned (v0_)∧Kd.R (Kd.int .u32) 32 w' w.heap.size (fun _=>True) v0_ r∧Below w.heap.size w w':=by
 have hu47:=Tryd.underlying47
 have HR0_0:=am hr0_0
 have HC0_0:=am hc0_0
 clear hr0_0 hc0_0
 have HB:=am (Below.refl w.heap.size w)
 have H : (nat_number_row.l0 k ([] : List Int) l0_0 (l0_0.length : Int) 0) = some r:=h
 clear h
 have H':=am H
 clear H
 go_enter Tryd.func34,Tryd.ntmps34
 go_wp2_with (first |((with_reducible refine gate_dst (N:=1) rfl ?_);refine box_event ?hg (N:=1) ?hd (cs:=#[.slice A0_0 l0_0.length c0_0]) (t:=47) ?hr ?_;(case hd=>rfl);(case hg=>rfl);(case hr=>exact zh);intro gb131 hg w2 hbox hb;have BK131:=am (hbox);have GW131:=gw w hg;have GE131:=gw w hg;replace HB:=am (below_step zb hb);clear hb hbox hg;have hcz3_0 : w2.cell? ⟨gb131,0,none⟩ = some (.slice A0_0 l0_0.length c0_0):=(blk_cell BK131.out 0).trans rfl;have hfz3_0:=blk_frozen BK131.out 0))
 go_loopg [3,9] k (fun kq v3 v9 w'=>∃ (x3_1 : List Int) (x9_1 : Int),v9 = .int .i64 x9_1∧Aside0 (nat_number_row.l0 kq x3_1 l0_0 (l0_0.length : Int) x9_1 = some r)∧Aside0 (kq≤k)∧Aside0 (Kd.R (Kd.int .u32) 32 w' w.heap.size (fun _=>True) v3 x3_1)∧Aside0 (w'.heap[gb131]? = some (.cells #[(.slice A0_0 l0_0.length c0_0)] 47 (0,0)))∧Aside0 (Below w.heap.size w w'))
 case atStart=>exact⟨(([] : List Int)),(0),ze,H',⟨Nat.le_refl _⟩,⟨by first | exact Kd.R_nil _ _ _ _ _ | exact Kd.N_nil _ _ _ _ _ | exact Kd.V_nil _ _ _ _ _ | exact Kd.Q_nil _ _ _ _ _ | exact Kd.S_nil _ _ _ _ _⟩,⟨zk BK131.out⟩,⟨zb⟩⟩
 case round=>
  clear H'
  try clear p2
  try clear c3
  try clear hcz3_0
  try clear hfz3_0
  obtain⟨x3_1,x9_1,rfl,HA,HK1,HO_3,BK131,HB⟩:=hrel
  cases gk with
  | zero=>exact absurd HA.out (by simp [nat_number_row.l0])
  | succ k1=>
   have H:=HA.out
   clear HA
   simp only [nat_number_row.l0] at H
   by_cases c4 : x9_1 < (l0_0.length : Int)
   ·rw [if_pos c4] at H
    have c4b0 : decide (x9_1 < (l0_0.length : Int)) = true:=decide_eq_true c4
    clear c4
    by_cases c5 : 0≤x9_1
    ·rw [if_pos c5] at H
     have c5b0 : decide (0≤x9_1) = true:=decide_eq_true c5
     clear c5
     by_cases c6 : x9_1 < (l0_0.length : Int)
     ·rw [if_pos c6] at H
      have c6b0 : decide (x9_1 < (l0_0.length : Int)) = true:=decide_eq_true c6
      clear c6
      by_cases c7 : x3_1.length < 35184372088832
      ·rw [if_pos c7] at H
       have LMc7:=am c7
       clear c7
       obtain⟨y133,hy133⟩ : ∃ y_ : List Int,y_ = (x3_1 ++ [(rd l0_0 x9_1) % 4294967296]):=⟨_,rfl⟩
       replace H : (nat_number_row.l0 k1 y133 l0_0 (l0_0.length : Int) (wrap64 (x9_1 + 1))) = some r:=by first |(rw [hy133];with_reducible exact H) |(have H2_:=(Option.bind_some _ _).symm.trans H;rw [hy133];with_reducible exact H2_) |(have H2_:=(Option.bind_some _ _).symm.trans H;with_reducible exact H2_) | with_reducible exact H |(rw [hy133];exact H) | exact H
       have Ny133:=am hy133
       clear hy133
       have H':=am H
       clear H
       have p132 : 0≤(x9_1 : Int):=of_decide_eq_true za
       have q132 : x9_1 < (l0_0.length : Int):=of_decide_eq_true za
       obtain⟨ad132,e132,hx132_0⟩:=Kd.at_int HR0_0.out x9_1 p132 q132
       cases e132
       replace hx132_0:=(HB.out.cell (World.block_lt_of_cell? w _ hx132_0)).trans hx132_0
       replace p132:=eq_true p132
       replace q132:=eq_true q132
       go_wp2_with (first |((with_reducible refine gate_builtin (b:=.append) (xs:=#[.tmp 13,.tmp 16]) rfl ?_);at_builtin;refine Kd.R_append (Kd.int .u32) (w0:=w) w.heap.size rfl (.tmp 13) (.tmp 16) 26 32 (.int .u32 0) 4 rfl Tryd.underlying26 info32 rfl (by decide) (by omega) u3 x3_1 ((rd l0_0 x9_1) % 4294967296) [.int .u32 ((rd l0_0 x9_1) % 4294967296)] (fun _=>True) (fun _=>False) rfl rfl ?aP (fun _ hk=>hk.elim) ?aF ?aO ?aB ?aS ?aL ?_;(case aP=>exact rfl);(case aB=>exact zb);(case aF=>exact(fun _ _=>trivial));(case aO=>exact(zR HO_3.out));(case aS=>exact(below_size zb));(case aL=>have:=LMc7.out;omega);intro v134 w8 ho hb hg hat;rw [← Ny133.out] at ho;replace BK131:=am (blk_grown (zk BK131.out) hg (Kd.R_ne HO_3.out BK131.out (by decide)));replace HB:=am (hb);have HO135:=am (ho);clear HO_3;clear ho hb hg hat))
       go_roundg k1
       case measure=>have:=HK1.out;omega
       case rel=>exact⟨(y133),(wrap64 (x9_1 + 1)),ze,H',⟨by have:=HK1.out;omega⟩,⟨zR HO135.out⟩,⟨zk BK131.out⟩,⟨zb⟩⟩
      ·rw [if_neg c7] at H
       exact absurd H (by simp)
     ·rw [if_neg c6] at H
      exact absurd H (by simp)
    ·rw [if_neg c5] at H
     exact absurd H (by simp)
   ·rw [if_neg c4] at H
    have c4b0 : decide (x9_1 < (l0_0.length : Int)) = false:=decide_eq_false c4
    clear c4
    obtain rfl:=Option.some.inj H
    go_wp2
    go_ret
    exact⟨_,zf,zR HO_3.out,zb⟩

-- NOT PRINTED: function 24 (nat_folded)

end Go.Proofs.YtnkkndninilciaaDoor.X

-- Printed by xprint.py, this session's own program (wip/tool), out of the translation. Lean checks it.
import Derived.Test.YtcbohpmdeboeoaaGreatDoorRRZ
import Derived.Test.YtcbohpmdeboeoaaGreatDoorRRX0
namespace Go.Proofs.YtcbohpmdeboeoaaGreatDoorRR.X
open Go.Proofs.YtcbohpmdeboeoaaGreatDoorRR.Z
open Go.RowKit Go.Proofs.YtcbohpmdeboeoaaGreatDoorRRW.PrintWords Go.Proofs.YtcbohpmdeboeoaaGreatDoorRRW.PrintLast Go.Proofs.YtcbohpmdeboeoaaGreatDoorRRW.PrintMore
open List renaming setIfInBounds_toArray → sA, set_cons_zero → sZ, set_cons_succ → sS
open Aside0 renaming mk → am
open Bool renaming true → tt, false → ff
set_option maxHeartbeats 8000000
set_option maxRecDepth 100000
attribute [local go_sem] max2_int min2_int max_two min_two max_three min_three max_four min_four   -- for this text's walks alone
set_option linter.unusedVariables false
set_option linter.unusedSimpArgs false

/-! ### stringslite_HasPrefix: function 83 -/
def stringslite_HasPrefix.f (a0 : ByteArray) (a1 : ByteArray) : Option (Bool):=if (a0.size : Int)≥(a1.size : Int) then(if 0≤(a1.size : Int) then(if (a1.size : Int)≤(a0.size : Int) then(some ((a0.extract 0 ((a1.size : Int) : Int).toNat).toList == a1.toList)) else(none)) else(none)) else(some false)
theorem stringslite_HasPrefix.calls (a0 : ByteArray) (a1 : ByteArray) (r : Bool) (w : World) (h : stringslite_HasPrefix.f a0 a1 = some r) :
  Calls Tryz.prog 83 #[.string a0,.string a1] w fun e w'=>e = .returned (.bool r)∧Drawn0 w w':=by
 have H : (if (a0.size : Int)≥(a1.size : Int) then(if 0≤(a1.size : Int) then(if (a1.size : Int)≤(a0.size : Int) then(some ((a0.extract 0 ((a1.size : Int) : Int).toNat).toList == a1.toList)) else(none)) else(none)) else(some false)) = some r:=h
 clear h
 by_cases c3 : (a0.size : Int)≥(a1.size : Int)
 ·rw [if_pos c3] at H
  have c3b0 : decide ((a1.size : Int)≤(a0.size : Int)) = true:=decide_eq_true c3
  have c3b1 : decide (a1.size≤a0.size) = true:=decide_eq_true (Int.ofNat_le.mp c3)
  clear c3
  by_cases c4 : 0≤(a1.size : Int)
  ·rw [if_pos c4] at H
   have c4b0:=eq_true c4
   have c4b1 : decide (0≤(a1.size : Int)) = true:=decide_eq_true c4
   clear c4
   by_cases c5 : (a1.size : Int)≤(a0.size : Int)
   ·rw [if_pos c5] at H
    have c5b0:=eq_true c5
    have c5b1 : decide ((a1.size : Int)≤(a0.size : Int)) = true:=decide_eq_true c5
    clear c5
    obtain rfl:=Option.some.inj H
    go_enter Tryz.func83,Tryz.ntmps83
    go_wp2
    go_ret
    exact⟨ze,by repeat (first | exact Drawn0.refl _ | apply Drawn0.step)⟩
   ·rw [if_neg c5] at H
    exact absurd H (by simp)
  ·rw [if_neg c4] at H
   exact absurd H (by simp)
 ·rw [if_neg c3] at H
  have c3b0 : decide ((a1.size : Int)≤(a0.size : Int)) = false:=decide_eq_false c3
  have c3b1 : decide (a1.size≤a0.size) = false:=decide_eq_false (fun h=>c3 (Int.ofNat_le.mpr h))
  clear c3
  obtain rfl:=Option.some.inj H
  go_enter Tryz.func83,Tryz.ntmps83
  go_wp2
  go_ret
  exact⟨ze,by repeat (first | exact Drawn0.refl _ | apply Drawn0.step)⟩

/-! ### stringslite_CutPrefix: function 54 -/
def stringslite_CutPrefix.f (a0 : ByteArray) (a1 : ByteArray) : Option (ByteArray×Bool):=(stringslite_HasPrefix.f a0 a1).bind fun t101=>(if t101 = true then(if 0≤(a1.size : Int) then(if (a1.size : Int)≤(a0.size : Int) then(some (a0.extract ((a1.size : Int) : Int).toNat a0.size,true)) else(none)) else(none)) else(some (a0,false)))
theorem stringslite_CutPrefix.calls (a0 : ByteArray) (a1 : ByteArray) (r1 : ByteArray) (r2 : Bool) (w : World) (h : stringslite_CutPrefix.f a0 a1 = some (r1,r2)) :
  Calls Tryz.prog 54 #[.string a0,.string a1] w fun e w'=>e = .returned (.tuple #[.string r1,.bool r2])∧Drawn0 w w':=by
 have H : ((stringslite_HasPrefix.f a0 a1).bind fun t101=>(if t101 = true then(if 0≤(a1.size : Int) then(if (a1.size : Int)≤(a0.size : Int) then(some (a0.extract ((a1.size : Int) : Int).toNat a0.size,true)) else(none)) else(none)) else(some (a0,false)))) = some (r1,r2):=h
 clear h
 replace H:=Option.bind_eq_some_iff.mp H
 obtain⟨t101,A30,H⟩:=H
 try dsimp only at H
 have A3:=am A30
 clear A30
 by_cases c4 : t101 = true
 ·subst c4
  have H1 : (if 0≤(a1.size : Int) then(if (a1.size : Int)≤(a0.size : Int) then(some (a0.extract ((a1.size : Int) : Int).toNat a0.size,true)) else(none)) else(none)) = some (r1,r2):=by rw [if_pos rfl] at H;exact H
  clear H
  have H:=H1
  clear H1
  by_cases c5 : 0≤(a1.size : Int)
  ·rw [if_pos c5] at H
   have c5b0:=eq_true c5
   have c5b1 : decide (0≤(a1.size : Int)) = true:=decide_eq_true c5
   clear c5
   by_cases c6 : (a1.size : Int)≤(a0.size : Int)
   ·rw [if_pos c6] at H
    have c6b0:=eq_true c6
    have c6b1 : decide ((a1.size : Int)≤(a0.size : Int)) = true:=decide_eq_true c6
    clear c6
    simp only [Option.some.injEq,Prod.mk.injEq] at H
    obtain⟨rfl,rfl⟩:=H
    go_enter Tryz.func54,Tryz.ntmps54
    go_wp2_with (first |((with_reducible refine gate_callee (f:=83) rfl ?_);refine goesL_ (some 8) rfl rfl Tryz.func83 (by kernel_rfl) rfl #[.string a0,.string a1] rfl zl ?_;(with_reducible refine(stringslite_HasPrefix.calls a0 a1 true _ A3.out).mono ?_);rintro e w' ⟨rfl,⟨nd,rfl⟩⟩;refine⟨_,rfl,?_⟩))
    go_ret2
    exact⟨ze,by repeat (first | exact Drawn0.refl _ | apply Drawn0.step)⟩
   ·rw [if_neg c6] at H
    exact absurd H (by simp)
  ·rw [if_neg c5] at H
   exact absurd H (by simp)
 ·replace c4:=Bool.eq_false_iff.mpr c4
  subst c4
  have H1 : (some (a0,false)) = some (r1,r2):=by rw [if_neg (show ¬ (false = true) by decide)] at H;exact H
  clear H
  have H:=H1
  clear H1
  simp only [Option.some.injEq,Prod.mk.injEq] at H
  obtain⟨rfl,rfl⟩:=H
  go_enter Tryz.func54,Tryz.ntmps54
  go_wp2_with (first |((with_reducible refine gate_callee (f:=83) rfl ?_);refine goesL_ (some 8) rfl rfl Tryz.func83 (by kernel_rfl) rfl #[.string a0,.string a1] rfl zl ?_;(with_reducible refine(stringslite_HasPrefix.calls a0 a1 false _ A3.out).mono ?_);rintro e w' ⟨rfl,⟨nd,rfl⟩⟩;refine⟨_,rfl,?_⟩))
  go_ret2
  exact⟨ze,by repeat (first | exact Drawn0.refl _ | apply Drawn0.step)⟩

/-! ### strings_CutPrefix: function 27 -/
def strings_CutPrefix.f (a0 : ByteArray) (a1 : ByteArray) : Option (ByteArray×Bool):=(stringslite_CutPrefix.f a0 a1).bind fun bt102=>(some (bt102.1,bt102.2))
theorem strings_CutPrefix.calls (a0 : ByteArray) (a1 : ByteArray) (r1 : ByteArray) (r2 : Bool) (w : World) (h : strings_CutPrefix.f a0 a1 = some (r1,r2)) :
  Calls Tryz.prog 27 #[.string a0,.string a1] w fun e w'=>e = .returned (.tuple #[.string r1,.bool r2])∧Drawn0 w w':=by
 have H : ((stringslite_CutPrefix.f a0 a1).bind fun bt102=>(some (bt102.1,bt102.2))) = some (r1,r2):=h
 clear h
 replace H:=Option.bind_eq_some_iff.mp H
 obtain⟨⟨t102,t103⟩,A30,H⟩:=H
 try dsimp only at H
 have A3:=am A30
 clear A30
 simp only [Option.some.injEq,Prod.mk.injEq] at H
 obtain⟨rfl,rfl⟩:=H
 go_enter Tryz.func27,Tryz.ntmps27
 go_wp2_with (first |((with_reducible refine gate_callee (f:=54) rfl ?_);refine goesL_ (some 8) rfl rfl Tryz.func54 (by kernel_rfl) rfl #[.string a0,.string a1] rfl zl ?_;(with_reducible refine(stringslite_CutPrefix.calls a0 a1 t102 t103 _ A3.out).mono ?_);rintro e w' ⟨rfl,⟨nd,rfl⟩⟩;refine⟨_,rfl,?_⟩))
 go_ret2
 exact⟨ze,by repeat (first | exact Drawn0.refl _ | apply Drawn0.step)⟩

/-! ### nat_decimal: function 55 -/
def nat_decimal.l0 : Nat→ByteArray→Int→Int→Option (Bool)
 | 0,_,_,_=>none
 | k + 1,x0,x5,x6=>if x6 < x5 then(if 0≤x6 then(if x6 < (x0.size : Int) then(if (bt x0 x6) < 48 then(some false) else(if (bt x0 x6) > 57 then(some false) else(nat_decimal.l0 k x0 x5 (wrap64 (x6 + 1))))) else(none)) else(none)) else(some true)
def nat_decimal.f (k : Nat) (a0 : ByteArray) : Option (Bool):=nat_decimal.l0 k a0 (a0.size : Int) 0
theorem nat_decimal.calls (k : Nat) (a0 : ByteArray) (r : Bool) (w : World) (h : nat_decimal.f k a0 = some r) :
  Calls Tryz.prog 55 #[.string a0] w fun e w'=>e = .returned (.bool r)∧Drawn0 w w':=by
 have H : (nat_decimal.l0 k a0 (a0.size : Int) 0) = some r:=h
 clear h
 have H':=am H
 clear H
 go_enter Tryz.func55,Tryz.ntmps55
 go_wp2
 go_loopg [6] k (fun kq v6 w'=>∃ (x6_1 : Int),v6 = .int .i64 x6_1∧Aside0 (nat_decimal.l0 kq a0 (a0.size : Int) x6_1 = some r)∧Aside0 (kq≤k)∧Drawn0 w w')
 case atStart=>exact⟨(0),ze,H',⟨Nat.le_refl _⟩,by repeat (first | exact Drawn0.refl _ | apply Drawn0.step)⟩
 case round=>
  clear H'
  obtain⟨x6_1,rfl,HA,HK1,⟨m1,rfl⟩⟩:=hrel
  cases gk with
  | zero=>exact absurd HA.out (by simp [nat_decimal.l0])
  | succ k1=>
   have H:=HA.out
   clear HA
   simp only [nat_decimal.l0] at H
   by_cases c2 : x6_1 < (a0.size : Int)
   ·rw [if_pos c2] at H
    have c2b0 : decide (x6_1 < (a0.size : Int)) = true:=decide_eq_true c2
    clear c2
    by_cases c3 : 0≤x6_1
    ·rw [if_pos c3] at H
     have c3b0 : decide (0≤x6_1) = true:=decide_eq_true c3
     clear c3
     by_cases c4 : x6_1 < (a0.size : Int)
     ·rw [if_pos c4] at H
      have c4b0 : decide (x6_1 < (a0.size : Int)) = true:=decide_eq_true c4
      clear c4
      by_cases c6 : (bt a0 x6_1) < 48
      ·rw [if_pos c6] at H
       have c6b0 : decide ((bt a0 x6_1) < 48) = true:=decide_eq_true c6
       clear c6
       obtain rfl:=Option.some.inj H
       have p5 : 0≤(x6_1 : Int):=of_decide_eq_true za
       have q5 : x6_1 < (a0.size : Int):=of_decide_eq_true za
       have hx5:=bt_at a0 x6_1
       replace p5:=eq_true p5
       replace q5:=eq_true q5
       go_wp2
       go_ret
       exact⟨ze,by repeat (first | exact Drawn0.refl _ | apply Drawn0.step)⟩
      ·rw [if_neg c6] at H
       have c6b0 : decide ((bt a0 x6_1) < 48) = false:=decide_eq_false c6
       clear c6
       by_cases c8 : (bt a0 x6_1) > 57
       ·rw [if_pos c8] at H
        have c8b0 : decide (57 < (bt a0 x6_1)) = true:=decide_eq_true c8
        clear c8
        obtain rfl:=Option.some.inj H
        have p5 : 0≤(x6_1 : Int):=of_decide_eq_true za
        have q5 : x6_1 < (a0.size : Int):=of_decide_eq_true za
        have hx5:=bt_at a0 x6_1
        replace p5:=eq_true p5
        replace q5:=eq_true q5
        have p7 : 0≤(x6_1 : Int):=of_decide_eq_true za
        have q7 : x6_1 < (a0.size : Int):=of_decide_eq_true za
        have hx7:=bt_at a0 x6_1
        replace p7:=eq_true p7
        replace q7:=eq_true q7
        go_wp2
        go_ret
        exact⟨ze,by repeat (first | exact Drawn0.refl _ | apply Drawn0.step)⟩
       ·rw [if_neg c8] at H
        have c8b0 : decide (57 < (bt a0 x6_1)) = false:=decide_eq_false c8
        clear c8
        have H':=am H
        clear H
        have p5 : 0≤(x6_1 : Int):=of_decide_eq_true za
        have q5 : x6_1 < (a0.size : Int):=of_decide_eq_true za
        have hx5:=bt_at a0 x6_1
        replace p5:=eq_true p5
        replace q5:=eq_true q5
        have p7 : 0≤(x6_1 : Int):=of_decide_eq_true za
        have q7 : x6_1 < (a0.size : Int):=of_decide_eq_true za
        have hx7:=bt_at a0 x6_1
        replace p7:=eq_true p7
        replace q7:=eq_true q7
        go_wp2
        go_roundg k1
        case measure=>have:=HK1.out;omega
        case rel=>exact⟨(wrap64 (x6_1 + 1)),ze,H',⟨by have:=HK1.out;omega⟩,by repeat (first | exact Drawn0.refl _ | apply Drawn0.step)⟩
     ·rw [if_neg c4] at H
      exact absurd H (by simp)
    ·rw [if_neg c3] at H
     exact absurd H (by simp)
   ·rw [if_neg c2] at H
    have c2b0 : decide (x6_1 < (a0.size : Int)) = false:=decide_eq_false c2
    clear c2
    obtain rfl:=Option.some.inj H
    go_wp2
    go_ret
    exact⟨ze,by repeat (first | exact Drawn0.refl _ | apply Drawn0.step)⟩

/-! ### strconv_ParseUint: function 56 -/
def strconv_ParseUint.f (a0 : ByteArray) (a1 : Int) (a2 : Int) : Option (Int×Option Int):=if a1 = 10 then(if a2 = 64 then(if a0.size≤9223372036854775806 then(match Lib.parseUintB 64 a0.data.toList with | .ok u=>some ((u : Int),none) | _=>none) else(none)) else(none)) else(none)
theorem strconv_ParseUint.calls (a0 : ByteArray) (a1 : Int) (a2 : Int) (r1 : Int) (r2 : Option Int) (w : World) (h : strconv_ParseUint.f a0 a1 a2 = some (r1,r2)) :
  Calls Tryz.prog 56 #[.string a0,.int .i64 a1,.int .i64 a2] w fun e w'=>e = .returned (.tuple #[.int .u64 r1,errW r2])∧Below w.heap.size w w':=by
 unfold strconv_ParseUint.f at h
 by_cases h1 : a1 = 10
 ·rw [if_pos h1] at h
  by_cases h2 : a2 = 64
  ·rw [if_pos h2] at h
   by_cases h3 : a0.size≤9223372036854775806
   ·rw [if_pos h3] at h
    split at h
    ·rename_i u hu
     obtain⟨rfl,rfl⟩:=Prod.mk.inj (Option.some.inj h)
     subst h1
     subst h2
     exact X_ParseUint a0 h3 u hu w
    ·exact absurd h (by simp)
   ·rw [if_neg h3] at h
    exact absurd h (by simp)
  ·rw [if_neg h2] at h
   exact absurd h (by simp)
 ·rw [if_neg h1] at h
  exact absurd h (by simp)


/-! ### nat_digits_at: function 79 -/
def nat_digits_at.f (l0 : List Int) (a1 : Int) : Option (Int):=if a1≥0 then(if a1 < (l0.length : Int) then(if 0≤a1 then(some (rd l0 a1)) else(none)) else(some 0)) else(some 0)
theorem nat_digits_at.calls (A0 : Option Addr) (c0 : Nat) (l0 : List Int) (a1 : Int) (r : Int) (w : World) (hr0 : Kd.C (Kd.int .u64) w A0 l0.length l0) (hc0 : l0.length≤c0) (h : nat_digits_at.f l0 a1 = some r) :
  Calls Tryz.prog 79 #[.slice A0 l0.length c0,.int .i64 a1] w fun e w'=>e = .returned (.int .u64 r)∧Drawn0 w w':=by
 have HR0:=am hr0
 have HC0:=am hc0
 clear hr0 hc0
 have H : (if a1≥0 then(if a1 < (l0.length : Int) then(if 0≤a1 then(some (rd l0 a1)) else(none)) else(some 0)) else(some 0)) = some r:=h
 clear h
 by_cases c3 : a1≥0
 ·rw [if_pos c3] at H
  have c3b0 : decide (0≤a1) = true:=decide_eq_true c3
  clear c3
  by_cases c4 : a1 < (l0.length : Int)
  ·rw [if_pos c4] at H
   have c4b0 : decide (a1 < (l0.length : Int)) = true:=decide_eq_true c4
   clear c4
   by_cases c5 : 0≤a1
   ·rw [if_pos c5] at H
    have c5b0 : decide (0≤a1) = true:=decide_eq_true c5
    clear c5
    obtain rfl:=Option.some.inj H
    have p104 : 0≤(a1 : Int):=of_decide_eq_true za
    have q104 : a1 < (l0.length : Int):=of_decide_eq_true za
    obtain⟨ad104,e104,hx104_0⟩:=Kd.at_int HR0.out a1 p104 q104
    cases e104
    replace p104:=eq_true p104
    replace q104:=eq_true q104
    go_enter Tryz.func79,Tryz.ntmps79
    go_wp2
    go_ret
    exact⟨ze,by repeat (first | exact Drawn0.refl _ | apply Drawn0.step)⟩
   ·rw [if_neg c5] at H
    exact absurd H (by simp)
  ·rw [if_neg c4] at H
   have c4b0 : decide (a1 < (l0.length : Int)) = false:=decide_eq_false c4
   clear c4
   obtain rfl:=Option.some.inj H
   go_enter Tryz.func79,Tryz.ntmps79
   go_wp2
   go_ret
   exact⟨ze,by repeat (first | exact Drawn0.refl _ | apply Drawn0.step)⟩
 ·rw [if_neg c3] at H
  have c3b0 : decide (0≤a1) = false:=decide_eq_false c3
  clear c3
  obtain rfl:=Option.some.inj H
  go_enter Tryz.func79,Tryz.ntmps79
  go_wp2
  go_ret
  exact⟨ze,by repeat (first | exact Drawn0.refl _ | apply Drawn0.step)⟩

/-! ### nat_digits_top: function 78 -/
def nat_digits_top.f (l0 : List Int) : Option (Int):=(nat_digits_at.f l0 (wrap64 ((l0.length : Int) - 1))).bind fun t105=>(some t105)
theorem nat_digits_top.calls (A0 : Option Addr) (c0 : Nat) (l0 : List Int) (r : Int) (w : World) (hr0 : Kd.C (Kd.int .u64) w A0 l0.length l0) (hc0 : l0.length≤c0) (h : nat_digits_top.f l0 = some r) :
  Calls Tryz.prog 78 #[.slice A0 l0.length c0] w fun e w'=>e = .returned (.int .u64 r)∧Drawn0 w w':=by
 have HR0:=am hr0
 have HC0:=am hc0
 clear hr0 hc0
 have H : ((nat_digits_at.f l0 (wrap64 ((l0.length : Int) - 1))).bind fun t105=>(some t105)) = some r:=h
 clear h
 replace H:=Option.bind_eq_some_iff.mp H
 obtain⟨t105,A20,H⟩:=H
 try dsimp only at H
 have A2:=am A20
 clear A20
 obtain rfl:=Option.some.inj H
 go_enter Tryz.func78,Tryz.ntmps78
 go_wp2_with (first |((with_reducible refine gate_callee (f:=79) rfl ?_);refine goesL_ (some 7) rfl rfl Tryz.func79 (by kernel_rfl) rfl #[.slice A0 l0.length c0,.int .i64 (wrap64 ((l0.length : Int) - 1))] rfl zl ?_;(with_reducible refine(nat_digits_at.calls _ _ l0 (wrap64 ((l0.length : Int) - 1)) t105 _ ?side1 ?side2 A2.out).mono ?_);(case side1=>exact zC HR0.out);(case side2=>exact HC0.out);rintro e w' ⟨rfl,⟨nd,rfl⟩⟩;refine⟨_,rfl,?_⟩))
 go_ret
 exact⟨ze,by repeat (first | exact Drawn0.refl _ | apply Drawn0.step)⟩

/-! ### nat_carried: function 57 -/
mutual
def nat_carried.l0 : Nat→List Int→List Int→Int→Int→Option (List Int)
 | 0,_,_,_,_=>none
 | k + 1,x0,x3,x4,x5=>if x5 < (x0.length : Int) then((nat_digits_at.f x0 x5).bind fun t110=>(if x3.length < 17592186044416 then(nat_carried.l0 k x0 (x3 ++ [Int.tmod (IntKind.u64.wrap (x4 + t110)) 1000000000]) (IntKind.u64.wrap (Int.tdiv (IntKind.u64.wrap (x4 + t110)) 1000000000)) (wrap64 (x5 + 1))) else(none))) else(if x4 > 0 then((nat_digits_at.f x0 x5).bind fun t114=>(if x3.length < 17592186044416 then(nat_carried.l0 k x0 (x3 ++ [Int.tmod (IntKind.u64.wrap (x4 + t114)) 1000000000]) (IntKind.u64.wrap (Int.tdiv (IntKind.u64.wrap (x4 + t114)) 1000000000)) (wrap64 (x5 + 1))) else(none))) else(nat_carried.l1 k x3))
def nat_carried.l1 : Nat→List Int→Option (List Int)
 | 0,_=>none
 | k + 1,x3=>if (x3.length : Int) > 0 then((nat_digits_top.f x3).bind fun t118=>(if t118 = 0 then(if 0≤(wrap64 ((x3.length : Int) - 1)) then(if (wrap64 ((x3.length : Int) - 1))≤(x3.length : Int) then(nat_carried.l1 k (x3.take ((wrap64 ((x3.length : Int) - 1)) : Int).toNat)) else(none)) else(none)) else(some x3))) else(some x3)
end
def nat_carried.f (k : Nat) (l0 : List Int) : Option (List Int):=if 0≤(wrap64 ((l0.length : Int) + 2)) then(if (wrap64 ((l0.length : Int) + 2) : Int).toNat≤35184372088832 then(nat_carried.l0 k l0 (([] : List Int)) 0 0) else(none)) else(none)
theorem nat_carried.calls (k : Nat) (A0 : Option Addr) (c0 : Nat) (l0 : List Int) (r : List Int) (w : World) (hr0 : Kd.C (Kd.int .u64) w A0 l0.length l0) (hc0 : l0.length≤c0) (h : nat_carried.f k l0 = some r) :
  Calls Tryz.prog 57 #[.slice A0 l0.length c0] w fun e w'=>∃ v0_ : Value,e = .returned (.agg #[v0_])∧Kd.R (Kd.int .u64) 59 w' w.heap.size (fun _=>True) v0_ r∧Below w.heap.size w w':=by
 have hu83:=Tryz.underlying83
 have HR0:=am hr0
 have HC0:=am hc0
 clear hr0 hc0
 have HB:=am (Below.refl w.heap.size w)
 have H : (if 0≤(wrap64 ((l0.length : Int) + 2)) then(if (wrap64 ((l0.length : Int) + 2) : Int).toNat≤35184372088832 then(nat_carried.l0 k l0 (([] : List Int)) 0 0) else(none)) else(none)) = some r:=h
 clear h
 obtain⟨ji2,hji2⟩ : ∃ j_ : Int,(wrap64 ((l0.length : Int) + 2)) = j_:=⟨_,rfl⟩
 replace H : (if 0≤(ji2) then(if (ji2 : Int).toNat≤35184372088832 then(nat_carried.l0 k l0 (([] : List Int)) 0 0) else(none)) else(none)) = some r:=by first |(rw [hji2] at H;exact H) |(simp only [hji2] at H ⊢;exact H)
 have hji2w : (IntKind.i64.wrap ((l0.length : Int) + 2)) = ji2:=(i64_w _).trans hji2
 by_cases c3 : 0≤(ji2)
 ·rw [if_pos c3] at H
  have c3b0:=eq_true c3
  have c3b1 : decide (0≤(ji2)) = true:=decide_eq_true c3
  clear c3
  by_cases c4 : (ji2 : Int).toNat≤35184372088832
  ·rw [if_pos c4] at H
   have c4b0:=eq_true c4
   have c4b1 : decide ((ji2 : Int).toNat≤35184372088832) = true:=decide_eq_true c4
   clear c4
   obtain⟨y107,hy107⟩ : ∃ y_ : List Int,y_ = (([] : List Int)):=⟨_,rfl⟩
   replace H : (nat_carried.l0 k l0 y107 0 0) = some r:=by first |(rw [hy107];with_reducible exact H) |(have H2_:=(Option.bind_some _ _).symm.trans H;rw [hy107];with_reducible exact H2_) |(have H2_:=(Option.bind_some _ _).symm.trans H;with_reducible exact H2_) | with_reducible exact H |(rw [hy107];exact H) | exact H
   have Ny107:=am hy107
   clear hy107
   have H':=am H
   clear H
   go_enter Tryz.func57,Tryz.ntmps57
   go_wp2_with (first |((with_reducible refine gate_dst (N:=2) rfl ?_);refine box_event ?hg (N:=2) ?hd (cs:=#[.slice none 0 0]) (t:=83) ?hr ?_;(case hd=>rfl);(case hg=>rfl);(case hr=>exact zh);intro gb106 hg w5 hbox hb;have BK106:=am (hbox);have GW106:=gw w hg;have GE106:=gw w hg;replace HB:=am (below_step zb hb);clear hb hbox hg) |((with_reducible refine gate_dst (N:=9) rfl ?_);refine X_make0 (Kd.int .u64) _ 59 rfl (N:=9) rfl 77 _ _ rfl ji2 rfl rfl Tryz.underlying77 (.int .u64 0) 8 info59 rfl (by decide) (by omega) (ok:=fun _=>True) trivial (of_decide_eq_true za) (Nat.le_trans (Nat.mul_le_mul_right _ (of_decide_eq_true za : ji2.toNat≤35184372088832)) (by omega)) (Below.refl _ _) (Nat.le_refl _) ?_;intro v108 w6 ho7 hb hg_ hnew_;clear hg_ hnew_;(first | rw [← Ny107.out] at ho7 |(simp only [Int.reduceToNat] at ho7;rw [← Ny107.out] at ho7));have HO109:=am (Kd.R_lower ho7 (below_size zb));replace BK106:=kb BK106 hb;replace HB:=am (below_step zb hb);clear hb ho7))
   go_loopg [3,4,5] k (fun kq v3 v4 v5 w'=>∃ (x3_1 : List Int) (x4_1 : Int) (x5_1 : Int),v4 = .int .u64 x4_1∧v5 = .int .i64 x5_1∧Aside0 (nat_carried.l0 kq l0 x3_1 x4_1 x5_1 = some r)∧Aside0 (kq≤k)∧Aside0 (Kd.R (Kd.int .u64) 59 w' w.heap.size (fun _=>True) v3 x3_1)∧Aside0 (w'.heap[gb106]? = some (.cells #[(.slice none 0 0)] 83 (0,0)))∧Aside0 (Below w.heap.size w w'))
   case atStart=>exact⟨(y107),(0),(0),ze,ze,H',⟨Nat.le_refl _⟩,⟨zR HO109.out⟩,⟨zk BK106.out⟩,⟨zb⟩⟩
   case round=>
    clear H'
    try clear p2
    try clear c3
    try clear c3b0
    try clear c3b1
    try clear c4
    try clear c4b0
    try clear c4b1
    try clear c5
    try clear p6
    obtain⟨x3_1,x4_1,x5_1,rfl,rfl,HA,HK1,HO_3,BK106,HB⟩:=hrel
    cases gk with
    | zero=>exact absurd HA.out (by simp [nat_carried.l0])
    | succ k1=>
     have H:=HA.out
     clear HA
     simp only [nat_carried.l0] at H
     by_cases c8 : x5_1 < (l0.length : Int)
     ·rw [if_pos c8] at H
      have c8b0 : decide (x5_1 < (l0.length : Int)) = true:=decide_eq_true c8
      clear c8
      replace H:=Option.bind_eq_some_iff.mp H
      obtain⟨t110,A90,H⟩:=H
      try dsimp only at H
      have A9:=am A90
      clear A90
      by_cases c10 : x3_1.length < 17592186044416
      ·rw [if_pos c10] at H
       have LMc10:=am c10
       clear c10
       obtain⟨y111,hy111⟩ : ∃ y_ : List Int,y_ = (x3_1 ++ [Int.tmod (IntKind.u64.wrap (x4_1 + t110)) 1000000000]):=⟨_,rfl⟩
       replace H : (nat_carried.l0 k1 l0 y111 (IntKind.u64.wrap (Int.tdiv (IntKind.u64.wrap (x4_1 + t110)) 1000000000)) (wrap64 (x5_1 + 1))) = some r:=by first |(rw [hy111];with_reducible exact H) |(have H2_:=(Option.bind_some _ _).symm.trans H;rw [hy111];with_reducible exact H2_) |(have H2_:=(Option.bind_some _ _).symm.trans H;with_reducible exact H2_) | with_reducible exact H |(rw [hy111];exact H) | exact H
       have Ny111:=am hy111
       clear hy111
       have H':=am H
       clear H
       go_wp2_with (first |((with_reducible refine gate_callee (f:=79) rfl ?_);refine goesL_ (some 23) rfl rfl Tryz.func79 (by kernel_rfl) rfl #[.slice A0 l0.length c0,.int .i64 x5_1] rfl zl ?_;(with_reducible refine(nat_digits_at.calls _ _ l0 x5_1 t110 _ ?side1 ?side2 A9.out).mono ?_);(case side1=>repeat (first | exact(Kd.C_below HR0.out HB.out) |(with_reducible refine Kd.C_alloc ?_ _) |(with_reducible refine Kd.C_drewN ?_ _) |(with_reducible refine Kd.C_drew ?_)));(case side2=>exact HC0.out);rintro e w' ⟨rfl,⟨nd,rfl⟩⟩;refine⟨_,rfl,?_⟩) |((with_reducible refine gate_builtin (b:=.append) (xs:=#[.tmp 25,.tmp 28]) rfl ?_);at_builtin;refine Kd.R_append (Kd.int .u64) (w0:=w) w.heap.size rfl (.tmp 25) (.tmp 28) 77 59 (.int .u64 0) 8 rfl Tryz.underlying77 info59 rfl (by decide) (by omega) u3 x3_1 (Int.tmod (IntKind.u64.wrap (x4_1 + t110)) 1000000000) [.int .u64 (Int.tmod (IntKind.u64.wrap (x4_1 + t110)) 1000000000)] (fun _=>True) (fun _=>False) rfl rfl ?aP (fun _ hk=>hk.elim) ?aF ?aO ?aB ?aS ?aL ?_;(case aP=>exact rfl);(case aB=>exact zb);(case aF=>exact(fun _ _=>trivial));(case aO=>exact(zR HO_3.out));(case aS=>exact(below_size zb));(case aL=>have:=LMc10.out;omega);intro v112 w11 ho hb hg hat;rw [← Ny111.out] at ho;replace BK106:=am (blk_grown (zk BK106.out) hg (Kd.R_ne HO_3.out BK106.out (by decide)));replace HB:=am (hb);have HO113:=am (ho);clear HO_3;clear ho hb hg hat))
       go_roundg k1
       case measure=>have:=HK1.out;omega
       case rel=>exact⟨(y111),(IntKind.u64.wrap (Int.tdiv (IntKind.u64.wrap (x4_1 + t110)) 1000000000)),(wrap64 (x5_1 + 1)),ze,ze,H',⟨by have:=HK1.out;omega⟩,⟨zR HO113.out⟩,⟨zk BK106.out⟩,⟨zb⟩⟩
      ·rw [if_neg c10] at H
       exact absurd H (by simp)
     ·rw [if_neg c8] at H
      have c8b0 : decide (x5_1 < (l0.length : Int)) = false:=decide_eq_false c8
      clear c8
      by_cases c12 : x4_1 > 0
      ·rw [if_pos c12] at H
       have c12b0 : decide (0 < x4_1) = true:=decide_eq_true c12
       clear c12
       replace H:=Option.bind_eq_some_iff.mp H
       obtain⟨t114,A130,H⟩:=H
       try dsimp only at H
       have A13:=am A130
       clear A130
       by_cases c14 : x3_1.length < 17592186044416
       ·rw [if_pos c14] at H
        have LMc14:=am c14
        clear c14
        obtain⟨y115,hy115⟩ : ∃ y_ : List Int,y_ = (x3_1 ++ [Int.tmod (IntKind.u64.wrap (x4_1 + t114)) 1000000000]):=⟨_,rfl⟩
        replace H : (nat_carried.l0 k1 l0 y115 (IntKind.u64.wrap (Int.tdiv (IntKind.u64.wrap (x4_1 + t114)) 1000000000)) (wrap64 (x5_1 + 1))) = some r:=by first |(rw [hy115];with_reducible exact H) |(have H2_:=(Option.bind_some _ _).symm.trans H;rw [hy115];with_reducible exact H2_) |(have H2_:=(Option.bind_some _ _).symm.trans H;with_reducible exact H2_) | with_reducible exact H |(rw [hy115];exact H) | exact H
        have Ny115:=am hy115
        clear hy115
        have H':=am H
        clear H
        go_wp2_with (first |((with_reducible refine gate_callee (f:=79) rfl ?_);refine goesL_ (some 23) rfl rfl Tryz.func79 (by kernel_rfl) rfl #[.slice A0 l0.length c0,.int .i64 x5_1] rfl zl ?_;(with_reducible refine(nat_digits_at.calls _ _ l0 x5_1 t114 _ ?side1 ?side2 A13.out).mono ?_);(case side1=>repeat (first | exact(Kd.C_below HR0.out HB.out) |(with_reducible refine Kd.C_alloc ?_ _) |(with_reducible refine Kd.C_drewN ?_ _) |(with_reducible refine Kd.C_drew ?_)));(case side2=>exact HC0.out);rintro e w' ⟨rfl,⟨nd,rfl⟩⟩;refine⟨_,rfl,?_⟩) |((with_reducible refine gate_builtin (b:=.append) (xs:=#[.tmp 25,.tmp 28]) rfl ?_);at_builtin;refine Kd.R_append (Kd.int .u64) (w0:=w) w.heap.size rfl (.tmp 25) (.tmp 28) 77 59 (.int .u64 0) 8 rfl Tryz.underlying77 info59 rfl (by decide) (by omega) u3 x3_1 (Int.tmod (IntKind.u64.wrap (x4_1 + t114)) 1000000000) [.int .u64 (Int.tmod (IntKind.u64.wrap (x4_1 + t114)) 1000000000)] (fun _=>True) (fun _=>False) rfl rfl ?aP (fun _ hk=>hk.elim) ?aF ?aO ?aB ?aS ?aL ?_;(case aP=>exact rfl);(case aB=>exact zb);(case aF=>exact(fun _ _=>trivial));(case aO=>exact(zR HO_3.out));(case aS=>exact(below_size zb));(case aL=>have:=LMc14.out;omega);intro v116 w15 ho hb hg hat;rw [← Ny115.out] at ho;replace BK106:=am (blk_grown (zk BK106.out) hg (Kd.R_ne HO_3.out BK106.out (by decide)));replace HB:=am (hb);have HO117:=am (ho);clear HO_3;clear ho hb hg hat))
        go_roundg k1
        case measure=>have:=HK1.out;omega
        case rel=>exact⟨(y115),(IntKind.u64.wrap (Int.tdiv (IntKind.u64.wrap (x4_1 + t114)) 1000000000)),(wrap64 (x5_1 + 1)),ze,ze,H',⟨by have:=HK1.out;omega⟩,⟨zR HO117.out⟩,⟨zk BK106.out⟩,⟨zb⟩⟩
       ·rw [if_neg c14] at H
        exact absurd H (by simp)
      ·rw [if_neg c12] at H
       have c12b0 : decide (0 < x4_1) = false:=decide_eq_false c12
       clear c12
       have H':=am H
       clear H
       go_wp2
       go_loopg [3] k1 (fun kq v3 w'=>∃ (x3_2 : List Int),Aside0 (nat_carried.l1 kq x3_2 = some r)∧Aside0 (kq≤k1)∧Aside0 (Kd.R (Kd.int .u64) 59 w' w.heap.size (fun _=>True) v3 x3_2)∧Aside0 (w'.heap[gb106]? = some (.cells #[(.slice none 0 0)] 83 (0,0)))∧Aside0 (Below w.heap.size w w'))
       case atStart=>exact⟨(x3_1),H',⟨Nat.le_refl _⟩,⟨zR HO_3.out⟩,⟨zk BK106.out⟩,⟨zb⟩⟩
       case round=>
        clear H'
        try clear c1
        try clear p2
        try clear c3
        try clear c3b0
        try clear c3b1
        try clear c4
        try clear c4b0
        try clear c4b1
        try clear c5
        try clear p6
        try clear c7
        try clear c8
        try clear c8b0
        try clear c10
        try clear c12
        try clear c12b0
        try clear c14
        try clear p2
        try clear p6
        obtain⟨x3_2,HA,HK2,HO_3,BK106,HB⟩:=hrel
        cases gk with
        | zero=>exact absurd HA.out (by simp [nat_carried.l1])
        | succ k2=>
         have H:=HA.out
         clear HA
         simp only [nat_carried.l1] at H
         by_cases c16 : (x3_2.length : Int) > 0
         ·rw [if_pos c16] at H
          have c16b0 : decide (0 < (x3_2.length : Int)) = true:=decide_eq_true c16
          have c16b1 : decide (0 < x3_2.length) = true:=decide_eq_true (by omega)
          clear c16
          replace H:=Option.bind_eq_some_iff.mp H
          obtain⟨t118,A170,H⟩:=H
          try dsimp only at H
          have A17:=am A170
          clear A170
          by_cases c18 : t118 = 0
          ·rw [if_pos c18] at H
           have c18b0 : (t118 == 0) = true:=beq_iff_eq.mpr c18
           have c18b1 : (t118 != 0) = false:=bne_eq_false_iff_eq.mpr c18
           clear c18
           obtain⟨ji19,hji19⟩ : ∃ j_ : Int,(wrap64 ((x3_2.length : Int) - 1)) = j_:=⟨_,rfl⟩
           replace H : (if 0≤(ji19) then(if (ji19)≤(x3_2.length : Int) then(nat_carried.l1 k2 (x3_2.take ((ji19) : Int).toNat)) else(none)) else(none)) = some r:=by first |(rw [hji19] at H;exact H) |(simp only [hji19] at H ⊢;exact H)
           (try rw [hji19] at A17)
           have hji19w : (IntKind.i64.wrap ((x3_2.length : Int) - 1)) = ji19:=(i64_w _).trans hji19
           by_cases c20 : 0≤(ji19)
           ·rw [if_pos c20] at H
            have c20b0:=eq_true c20
            have c20b1 : decide (0≤(ji19)) = true:=decide_eq_true c20
            clear c20
            by_cases c21 : (ji19)≤(x3_2.length : Int)
            ·rw [if_pos c21] at H
             have c21b0:=eq_true c21
             have c21b1 : decide ((ji19)≤(x3_2.length : Int)) = true:=decide_eq_true c21
             clear c21
             obtain⟨y119,hy119⟩ : ∃ y_ : List Int,y_ = (x3_2.take ((ji19) : Int).toNat):=⟨_,rfl⟩
             replace H : (nat_carried.l1 k2 y119) = some r:=by first |(rw [hy119];with_reducible exact H) |(have H2_:=(Option.bind_some _ _).symm.trans H;rw [hy119];with_reducible exact H2_) |(have H2_:=(Option.bind_some _ _).symm.trans H;with_reducible exact H2_) | with_reducible exact H |(rw [hy119];exact H) | exact H
             have Ny119:=am hy119
             clear hy119
             have H':=am H
             clear H
             obtain⟨Ao22,co22,eo22⟩:=Kd.R_slice HO_3.out
             subst eo22
             go_wp2_with (first |(go_at_call 78;(with_reducible refine(nat_digits_top.calls _ _ x3_2 t118 _ ?side1 ?side2 A17.out).mono ?_);(case side1=>exact zC (Kd.R_reads' HO_3.out).2.2);(case side2=>exact(Kd.R_reads' HO_3.out).2.1);rintro e w' ⟨rfl,⟨nd,rfl⟩⟩;have q23 : ((ji19) : Int)≤((x3_2.length : Int) : Int):=of_decide_eq_true za;obtain⟨i023,hi023,_,hsz23,_⟩:=info_parts info59;have hcut23:=cut_to (P:=Tryz.prog) 77 59 .i64 Tryz.underlying77 hi023 Ao22 x3_2.length co22 (ji19) (of_decide_eq_true za) q23 (Kd.R_reads' HO_3.out).2.1;have hr23:=Kd.R_take (m:=((ji19) : Int).toNat) HO_3.out (by omega);have hy23 : y119.length = ((ji19) : Int).toNat:=(by rw [Ny119.out,List.length_take];omega);rw [← Ny119.out] at hr23;rw [← hy23] at hr23 hcut23;clear hy23 hi023 hsz23 HO_3;have HO121:=am hr23;clear hr23;replace q23:=eq_true q23))
             go_roundg k2
             case measure=>have:=HK1.out;have:=HK2.out;omega
             case rel=>exact⟨(y119),H',⟨by have:=HK1.out;have:=HK2.out;omega⟩,⟨zR HO121.out⟩,⟨zk BK106.out⟩,⟨zb⟩⟩
            ·rw [if_neg c21] at H
             exact absurd H (by simp)
           ·rw [if_neg c20] at H
            exact absurd H (by simp)
          ·rw [if_neg c18] at H
           have c18b0 : (t118 == 0) = false:=beq_eq_false_iff_ne.mpr c18
           have c18b1 : (t118 != 0) = true:=bne_iff_ne.mpr c18
           obtain rfl:=Option.some.inj H
           obtain⟨Ao24,co24,eo24⟩:=Kd.R_slice HO_3.out
           subst eo24
           go_wp2_with (first |(go_at_call 78;(with_reducible refine(nat_digits_top.calls _ _ x3_2 t118 _ ?side1 ?side2 A17.out).mono ?_);(case side1=>exact zC (Kd.R_reads' HO_3.out).2.2);(case side2=>exact(Kd.R_reads' HO_3.out).2.1);rintro e w' ⟨rfl,⟨nd,rfl⟩⟩;(try (rw [drewN_self wr];generalize hq_ : World.drewN wr _ = wr;have n0_ : Aside0 (Kd.R (Kd.int .u64) 59 wr w.heap.size (fun _=>True) (.slice Ao24 x3_2.length co24) x3_2):=⟨by rw [← hq_];exact(zR HO_3.out)⟩;have n1_ : Aside0 (wr.heap[gb106]? = some (.cells #[.slice none 0 0] 83 (0,0))):=⟨by rw [← hq_];exact(zk BK106.out)⟩;have n2_ : Aside0 (Below w.heap.size w wr):=⟨by rw [← hq_];exact zb⟩;clear HO_3 BK106 HB hq_;have HO_3:=n0_;have BK106:=n1_;have HB:=n2_;clear n0_ n1_ n2_));have hcz25_0 : wr.cell? ⟨gb106,0,none⟩ = some (.slice none 0 0):=(blk_cell BK106.out 0).trans rfl;have hfz25_0:=blk_frozen BK106.out 0))
           refine bodyPost_ret (results_cell_row rfl _ _ gb106 83 #[.slice Ao24 x3_2.length co24] (0,0) _ rfl (by refine zk ?_;refine blk_put (cs:=#[.slice none 0 0]) ?_ 0 _ rfl;refine zk ?_;exact BK106.out) Tryz.underlying83 rfl (by kernel_rfl)) rfl ?_
           exact⟨_,by first | rfl |(simp [errW_none,errW_some] <;> rfl) |(simp only [← hji2];first | rfl |(simp [errW_none,errW_some] <;> rfl)) |(simp [*,errW_none,errW_some] <;> rfl),by refine zR ?_;exact Kd.R_mono (Kd.R_far (p:=⟨gb106,0,none⟩) (Kd.R_types HO_3.out BK106.out (by decide)) (fun _ hk=>hk.2) (.slice Ao24 x3_2.length co24)) (fun _ hk=>trivial),zb⟩
         ·rw [if_neg c16] at H
          have c16b0 : decide (0 < (x3_2.length : Int)) = false:=decide_eq_false c16
          have c16b1 : decide (0 < x3_2.length) = false:=decide_eq_false (by omega)
          clear c16
          obtain rfl:=Option.some.inj H
          obtain⟨Ao26,co26,eo26⟩:=Kd.R_slice HO_3.out
          subst eo26
          have hcz27_0 : wr.cell? ⟨gb106,0,none⟩ = some (.slice none 0 0):=(blk_cell BK106.out 0).trans rfl
          have hfz27_0:=blk_frozen BK106.out 0
          go_wp2
          refine bodyPost_ret (results_cell_row rfl _ _ gb106 83 #[.slice Ao26 x3_2.length co26] (0,0) _ rfl (by refine zk ?_;refine blk_put (cs:=#[.slice none 0 0]) ?_ 0 _ rfl;refine zk ?_;exact BK106.out) Tryz.underlying83 rfl (by kernel_rfl)) rfl ?_
          exact⟨_,by first | rfl |(simp [errW_none,errW_some] <;> rfl) |(simp only [← hji2];first | rfl |(simp [errW_none,errW_some] <;> rfl)) |(simp [*,errW_none,errW_some] <;> rfl),by refine zR ?_;exact Kd.R_mono (Kd.R_far (p:=⟨gb106,0,none⟩) (Kd.R_types HO_3.out BK106.out (by decide)) (fun _ hk=>hk.2) (.slice Ao26 x3_2.length co26)) (fun _ hk=>trivial),zb⟩
  ·rw [if_neg c4] at H
   exact absurd H (by simp)
 ·rw [if_neg c3] at H
  exact absurd H (by simp)

/-! ### nat_number_row: function 58 -/
def nat_number_row.l0 : Nat→List Int→List Int→Int→Int→Option (List Int)
 | 0,_,_,_,_=>none
 | k + 1,x3,x7,x8,x9=>if x9 < x8 then(if 0≤x9 then(if x9 < (x7.length : Int) then(if x3.length < 35184372088832 then(nat_number_row.l0 k (x3 ++ [(rd x7 x9) % 4294967296]) x7 x8 (wrap64 (x9 + 1))) else(none)) else(none)) else(none)) else(some x3)
def nat_number_row.f (k : Nat) (l0_0 : List Int) : Option (List Int):=nat_number_row.l0 k ([] : List Int) l0_0 (l0_0.length : Int) 0
theorem nat_number_row.calls (k : Nat) (A0_0 : Option Addr) (c0_0 : Nat) (l0_0 : List Int) (r : List Int) (w : World) (hr0_0 : Kd.C (Kd.int .u64) w A0_0 l0_0.length l0_0) (hc0_0 : l0_0.length≤c0_0) (h : nat_number_row.f k l0_0 = some r) :
  Calls Tryz.prog 58 #[.agg #[.slice A0_0 l0_0.length c0_0]] w fun e w'=>∃ v0_ : Value,e = .returned (v0_)∧Kd.R (Kd.int .u32) 60 w' w.heap.size (fun _=>True) v0_ r∧Below w.heap.size w w':=by
 have hu83:=Tryz.underlying83
 have HR0_0:=am hr0_0
 have HC0_0:=am hc0_0
 clear hr0_0 hc0_0
 have HB:=am (Below.refl w.heap.size w)
 have H : (nat_number_row.l0 k ([] : List Int) l0_0 (l0_0.length : Int) 0) = some r:=h
 clear h
 have H':=am H
 clear H
 go_enter Tryz.func58,Tryz.ntmps58
 go_wp2_with (first |((with_reducible refine gate_dst (N:=1) rfl ?_);refine box_event ?hg (N:=1) ?hd (cs:=#[.slice A0_0 l0_0.length c0_0]) (t:=83) ?hr ?_;(case hd=>rfl);(case hg=>rfl);(case hr=>exact zh);intro gb122 hg w2 hbox hb;have BK122:=am (hbox);have GW122:=gw w hg;have GE122:=gw w hg;replace HB:=am (below_step zb hb);clear hb hbox hg;have hcz3_0 : w2.cell? ⟨gb122,0,none⟩ = some (.slice A0_0 l0_0.length c0_0):=(blk_cell BK122.out 0).trans rfl;have hfz3_0:=blk_frozen BK122.out 0))
 go_loopg [3,9] k (fun kq v3 v9 w'=>∃ (x3_1 : List Int) (x9_1 : Int),v9 = .int .i64 x9_1∧Aside0 (nat_number_row.l0 kq x3_1 l0_0 (l0_0.length : Int) x9_1 = some r)∧Aside0 (kq≤k)∧Aside0 (Kd.R (Kd.int .u32) 60 w' w.heap.size (fun _=>True) v3 x3_1)∧Aside0 (w'.heap[gb122]? = some (.cells #[(.slice A0_0 l0_0.length c0_0)] 83 (0,0)))∧Aside0 (Below w.heap.size w w'))
 case atStart=>exact⟨(([] : List Int)),(0),ze,H',⟨Nat.le_refl _⟩,⟨by first | exact Kd.R_nil _ _ _ _ _ | exact Kd.N_nil _ _ _ _ _ | exact Kd.V_nil _ _ _ _ _ | exact Kd.Q_nil _ _ _ _ _ | exact Kd.S_nil _ _ _ _ _⟩,⟨zk BK122.out⟩,⟨zb⟩⟩
 case round=>
  clear H'
  try clear p2
  try clear hcz3_0
  try clear hfz3_0
  obtain⟨x3_1,x9_1,rfl,HA,HK1,HO_3,BK122,HB⟩:=hrel
  cases gk with
  | zero=>exact absurd HA.out (by simp [nat_number_row.l0])
  | succ k1=>
   have H:=HA.out
   clear HA
   simp only [nat_number_row.l0] at H
   by_cases c4 : x9_1 < (l0_0.length : Int)
   ·rw [if_pos c4] at H
    have c4b0 : decide (x9_1 < (l0_0.length : Int)) = true:=decide_eq_true c4
    clear c4
    by_cases c5 : 0≤x9_1
    ·rw [if_pos c5] at H
     have c5b0 : decide (0≤x9_1) = true:=decide_eq_true c5
     clear c5
     by_cases c6 : x9_1 < (l0_0.length : Int)
     ·rw [if_pos c6] at H
      have c6b0 : decide (x9_1 < (l0_0.length : Int)) = true:=decide_eq_true c6
      clear c6
      by_cases c7 : x3_1.length < 35184372088832
      ·rw [if_pos c7] at H
       have LMc7:=am c7
       clear c7
       obtain⟨y124,hy124⟩ : ∃ y_ : List Int,y_ = (x3_1 ++ [(rd l0_0 x9_1) % 4294967296]):=⟨_,rfl⟩
       replace H : (nat_number_row.l0 k1 y124 l0_0 (l0_0.length : Int) (wrap64 (x9_1 + 1))) = some r:=by first |(rw [hy124];with_reducible exact H) |(have H2_:=(Option.bind_some _ _).symm.trans H;rw [hy124];with_reducible exact H2_) |(have H2_:=(Option.bind_some _ _).symm.trans H;with_reducible exact H2_) | with_reducible exact H |(rw [hy124];exact H) | exact H
       have Ny124:=am hy124
       clear hy124
       have H':=am H
       clear H
       have p123 : 0≤(x9_1 : Int):=of_decide_eq_true za
       have q123 : x9_1 < (l0_0.length : Int):=of_decide_eq_true za
       obtain⟨ad123,e123,hx123_0⟩:=Kd.at_int HR0_0.out x9_1 p123 q123
       cases e123
       replace hx123_0:=(HB.out.cell (World.block_lt_of_cell? w _ hx123_0)).trans hx123_0
       replace p123:=eq_true p123
       replace q123:=eq_true q123
       go_wp2_with (first |((with_reducible refine gate_builtin (b:=.append) (xs:=#[.tmp 13,.tmp 16]) rfl ?_);at_builtin;refine Kd.R_append (Kd.int .u32) (w0:=w) w.heap.size rfl (.tmp 13) (.tmp 16) 23 60 (.int .u32 0) 4 rfl Tryz.underlying23 info60 rfl (by decide) (by omega) u3 x3_1 ((rd l0_0 x9_1) % 4294967296) [.int .u32 ((rd l0_0 x9_1) % 4294967296)] (fun _=>True) (fun _=>False) rfl rfl ?aP (fun _ hk=>hk.elim) ?aF ?aO ?aB ?aS ?aL ?_;(case aP=>exact rfl);(case aB=>exact zb);(case aF=>exact(fun _ _=>trivial));(case aO=>exact(zR HO_3.out));(case aS=>exact(below_size zb));(case aL=>have:=LMc7.out;omega);intro v125 w8 ho hb hg hat;rw [← Ny124.out] at ho;replace BK122:=am (blk_grown (zk BK122.out) hg (Kd.R_ne HO_3.out BK122.out (by decide)));replace HB:=am (hb);have HO126:=am (ho);clear HO_3;clear ho hb hg hat))
       go_roundg k1
       case measure=>have:=HK1.out;omega
       case rel=>exact⟨(y124),(wrap64 (x9_1 + 1)),ze,H',⟨by have:=HK1.out;omega⟩,⟨zR HO126.out⟩,⟨zk BK122.out⟩,⟨zb⟩⟩
      ·rw [if_neg c7] at H
       exact absurd H (by simp)
     ·rw [if_neg c6] at H
      exact absurd H (by simp)
    ·rw [if_neg c5] at H
     exact absurd H (by simp)
   ·rw [if_neg c4] at H
    have c4b0 : decide (x9_1 < (l0_0.length : Int)) = false:=decide_eq_false c4
    clear c4
    obtain rfl:=Option.some.inj H
    go_wp2
    go_ret
    exact⟨_,zf,zR HO_3.out,zb⟩

end Go.Proofs.YtcbohpmdeboeoaaGreatDoorRR.X

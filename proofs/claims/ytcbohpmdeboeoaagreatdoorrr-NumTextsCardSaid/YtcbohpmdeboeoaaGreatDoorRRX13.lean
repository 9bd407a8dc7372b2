-- Printed by xprint.py, this session's own program (wip/tool), out of the translation. Lean checks it.
import Derived.Test.YtcbohpmdeboeoaaGreatDoorRRZ
import Derived.Test.YtcbohpmdeboeoaaGreatDoorRRX0
import Derived.Test.YtcbohpmdeboeoaaGreatDoorRRX3
import Derived.Test.YtcbohpmdeboeoaaGreatDoorRRX8
import Derived.Test.YtcbohpmdeboeoaaGreatDoorRRX9
import Derived.Test.YtcbohpmdeboeoaaGreatDoorRRX12
namespace Go.Proofs.YtcbohpmdeboeoaaGreatDoorRR.X
open Go.Proofs.YtcbohpmdeboeoaaGreatDoorRR.Z
open Go.RowKit Go.Proofs.YtcbohpmdeboeoaaGreatDoorRRW.PrintWords Go.Proofs.YtcbohpmdeboeoaaGreatDoorRRW.PrintLast Go.Proofs.YtcbohpmdeboeoaaGreatDoorRRW.PrintMore
open List renaming setIfInBounds_toArray → sA, set_cons_zero → sZ, set_cons_succ → sS
open Aside0 renaming mk → am
open Bool renaming true → tt, false → ff
set_option maxHeartbeats 8000000
set_option maxRecDepth 100000
attribute [local go_sem] max2_int min2_int max_two min_two max_three min_three max_four min_four   -- for this text's walks alone
set_option linter.unusedVariables false
set_option linter.unusedSimpArgs false

/-! ### whetstonelaw02_awake: function 6 -/
def whetstonelaw02_awake.f (k : Nat)  : Option (Bool):=(num_Of.f k (-7)).bind fun bt519=>((num_Of.f k 2).bind fun bt523=>((num_DivMod.f k bt519.1 bt519.2 bt523.1 bt523.2).bind fun bt527=>((num_Of.f k 7).bind fun bt538=>((num_Of.f k (-2)).bind fun bt542=>((num_DivMod.f k bt538.1 bt538.2 bt542.1 bt542.2).bind fun bt546=>((num_Of.f k (-7)).bind fun bt557=>((num_Of.f k (-2)).bind fun bt561=>((num_DivMod.f k bt557.1 bt557.2 bt561.1 bt561.2).bind fun bt565=>((num_Parse.f k (⟨#[45,48]⟩ : ByteArray)).bind fun bt576=>((num_Parse.f k (⟨#[43,49]⟩ : ByteArray)).bind fun bt582=>((num_Of.f k (-4)).bind fun bt588=>((whetstonelaw02_same.f k bt527.1 bt527.2.1 bt588.1 bt588.2).bind fun t592=>(if t592 = true then((num_Of.f k 1).bind fun bt593=>((whetstonelaw02_same.f k bt527.2.2.1 bt527.2.2.2.1 bt593.1 bt593.2).bind fun t597=>(if t597 = true then(if bt527.2.2.2.2 = 0 then((num_Of.f k (-4)).bind fun bt598=>((whetstonelaw02_same.f k bt546.1 bt546.2.1 bt598.1 bt598.2).bind fun t602=>(if t602 = true then((num_Of.f k (-1)).bind fun bt603=>((whetstonelaw02_same.f k bt546.2.2.1 bt546.2.2.2.1 bt603.1 bt603.2).bind fun t607=>(if t607 = true then(if bt546.2.2.2.2 = 0 then((num_Of.f k 3).bind fun bt608=>((whetstonelaw02_same.f k bt565.1 bt565.2.1 bt608.1 bt608.2).bind fun t612=>(if t612 = true then((num_Of.f k (-1)).bind fun bt613=>((whetstonelaw02_same.f k bt565.2.2.1 bt565.2.2.2.1 bt613.1 bt613.2).bind fun t617=>(if t617 = true then(if bt565.2.2.2.2 = 0 then((num_Of.f k (-4)).bind fun bt618=>((num_Of.f k 6).bind fun bt622=>((num_Of.f k 0).bind fun bt626=>((num_Gcd.f k (([(⟨bt618.1,bt618.2⟩ : S25),(⟨bt622.1,bt622.2⟩ : S25),(⟨bt626.1,bt626.2⟩ : S25)] : List (S25)))).bind fun bt633=>((num_Of.f k 2).bind fun bt637=>((whetstonelaw02_same.f k bt633.1 bt633.2 bt637.1 bt637.2).bind fun t641=>(if t641 = true then((num_Text.f k true ([] : List Int)).bind fun t642=>(if t642.toList = ([48] : List UInt8) then(if bt576.2.2 = true then(some false) else(some (!bt582.2.2))) else(some false))) else(some false)))))))) else(some false)) else(some false)))) else(some false)))) else(some false)) else(some false)))) else(some false)))) else(some false)) else(some false)))) else(some false))))))))))))))
def whetstonelaw02_awake.T6 : Bool×List (List Nat×List Nat):=(true,[([],[]),([],[]),([0,1,1],[0,1]),([2,2],[2]),([3],[3]),([3,3],[3]),([4,5,5,3],[3,4,5]),([3,6],[3,6]),([7,6],[7]),([8],[8]),([9,8],[8,9]),([8,10],[8,10]),([11,8],[11]),([12],[12]),([12,12],[12]),([13,14,14,12],[12,13,14]),([12,15],[12,15]),([16,15],[16]),([17],[17]),([17,17],[17]),([18,19,19,17],[17,18,19]),([17,20],[17,20]),([21,20],[21]),([22],[22]),([23,22],[22,23]),([22,24],[22,24]),([25,22],[25]),([26],[26]),([26,26],[26]),([27,28,28,26],[26,27,28]),([26,29],[26,29]),([30,29],[30]),([31],[31]),([31,31],[31]),([32,33,33,31],[31,32,33]),([31,34],[31,34]),([35,34],[35]),([36],[36]),([37,36],[36,37]),([36,38],[36,38]),([39,36],[39]),([40,40],[40]),([41,40],[40]),([42,40],[40]),([41,42,43,40],[40,41,42,43]),([44,43,40],[40,44]),([45,40],[40]),([45,46,46,40],[40,45,46]),([40,47],[40,47]),([48,47],[48]),([49],[49]),([50,49,49],[49,50]),([51,49],[49,51]),([49,52],[49,52]),([53,51],[53]),([54],[54]),([55,54],[54,55]),([54,56],[54,56]),([57,54],[57]),([58],[58]),([59,58],[58,59]),([58,60],[58,60]),([61,58,0,1,2,3,4,5,6,7,8,9,10,11,12,13,14,15,16,17,18,19,20,21,22,23,24,25,26,27,28,29,30,31,32,33,34,35,36,37,38,39,40,41,42,43,44,45,46,47,48,49,50,51,52,53,54,55,56,57,58,59,60,61],[61])])
def whetstonelaw02_awake.B6 : List Nat:=[0,0,3,7,15,15,63,127,255,511,1023,2047,4095,8191,8191,32767,65535,131071,262143,262143,1048575,2097151,4194303,8388607,16777215,33554431,67108863,134217727,134217727,536870911,1073741823,2147483647,4294967295,4294967295,17179869183,34359738367,68719476735,137438953471,274877906943,549755813887,1099511627775,2199023255551,4398046511103,8796093022207,17592186044415,35184372088831,70368744177663,140737488355327,281474976710655,562949953421311,1125899906842623,2251799813685247,4503599627370495,9007199254740991,18014398509481983,36028797018963967,72057594037927935,144115188075855871,288230376151711743,576460752303423487,1152921504606846975,2305843009213693951,4611686018427387903]
theorem whetstonelaw02_awake.tab6 : rtab .any (opsOf Tryz.f6 6) = whetstonelaw02_awake.T6:=by kernel_rfl
theorem whetstonelaw02_awake.bits6 : waitsOk whetstonelaw02_awake.T6.2 whetstonelaw02_awake.B6 = true:=by kernel_rfl
theorem whetstonelaw02_awake.calls (k : Nat)  (r : Bool) (w : World) (hr : r = true) (hG : GW w) (h : whetstonelaw02_awake.f k  = some r) :
  Calls Tryz.prog 6 #[] w fun e w'=>e = .returned (.bool r)∧Below w.heap.size w w':=by
 have hu25:=Tryz.underlying25
 have HRT:=am hr
 clear hr
 have HG:=am hG
 clear hG
 have HB:=am (Below.refl w.heap.size w)
 have H : ((num_Of.f k (-7)).bind fun bt519=>((num_Of.f k 2).bind fun bt523=>((num_DivMod.f k bt519.1 bt519.2 bt523.1 bt523.2).bind fun bt527=>((num_Of.f k 7).bind fun bt538=>((num_Of.f k (-2)).bind fun bt542=>((num_DivMod.f k bt538.1 bt538.2 bt542.1 bt542.2).bind fun bt546=>((num_Of.f k (-7)).bind fun bt557=>((num_Of.f k (-2)).bind fun bt561=>((num_DivMod.f k bt557.1 bt557.2 bt561.1 bt561.2).bind fun bt565=>((num_Parse.f k (⟨#[45,48]⟩ : ByteArray)).bind fun bt576=>((num_Parse.f k (⟨#[43,49]⟩ : ByteArray)).bind fun bt582=>((num_Of.f k (-4)).bind fun bt588=>((whetstonelaw02_same.f k bt527.1 bt527.2.1 bt588.1 bt588.2).bind fun t592=>(if t592 = true then((num_Of.f k 1).bind fun bt593=>((whetstonelaw02_same.f k bt527.2.2.1 bt527.2.2.2.1 bt593.1 bt593.2).bind fun t597=>(if t597 = true then(if bt527.2.2.2.2 = 0 then((num_Of.f k (-4)).bind fun bt598=>((whetstonelaw02_same.f k bt546.1 bt546.2.1 bt598.1 bt598.2).bind fun t602=>(if t602 = true then((num_Of.f k (-1)).bind fun bt603=>((whetstonelaw02_same.f k bt546.2.2.1 bt546.2.2.2.1 bt603.1 bt603.2).bind fun t607=>(if t607 = true then(if bt546.2.2.2.2 = 0 then((num_Of.f k 3).bind fun bt608=>((whetstonelaw02_same.f k bt565.1 bt565.2.1 bt608.1 bt608.2).bind fun t612=>(if t612 = true then((num_Of.f k (-1)).bind fun bt613=>((whetstonelaw02_same.f k bt565.2.2.1 bt565.2.2.2.1 bt613.1 bt613.2).bind fun t617=>(if t617 = true then(if bt565.2.2.2.2 = 0 then((num_Of.f k (-4)).bind fun bt618=>((num_Of.f k 6).bind fun bt622=>((num_Of.f k 0).bind fun bt626=>((num_Gcd.f k (([(⟨bt618.1,bt618.2⟩ : S25),(⟨bt622.1,bt622.2⟩ : S25),(⟨bt626.1,bt626.2⟩ : S25)] : List (S25)))).bind fun bt633=>((num_Of.f k 2).bind fun bt637=>((whetstonelaw02_same.f k bt633.1 bt633.2 bt637.1 bt637.2).bind fun t641=>(if t641 = true then((num_Text.f k true ([] : List Int)).bind fun t642=>(if t642.toList = ([48] : List UInt8) then(if bt576.2.2 = true then(some false) else(some (!bt582.2.2))) else(some false))) else(some false)))))))) else(some false)) else(some false)))) else(some false)))) else(some false)) else(some false)))) else(some false)))) else(some false)) else(some false)))) else(some false))))))))))))))) = some r:=h
 clear h
 replace H:=Option.bind_eq_some_iff.mp H
 obtain⟨⟨t519,t520⟩,A10,H⟩:=H
 try dsimp only at H
 have A1:=am A10
 clear A10
 replace H:=Option.bind_eq_some_iff.mp H
 obtain⟨⟨t523,t524⟩,A20,H⟩:=H
 try dsimp only at H
 have A2:=am A20
 clear A20
 replace H:=Option.bind_eq_some_iff.mp H
 obtain⟨⟨t527,t528,t531,t532,t535⟩,A30,H⟩:=H
 try dsimp only at H
 have A3:=am A30
 clear A30
 replace H:=Option.bind_eq_some_iff.mp H
 obtain⟨⟨t538,t539⟩,A40,H⟩:=H
 try dsimp only at H
 have A4:=am A40
 clear A40
 replace H:=Option.bind_eq_some_iff.mp H
 obtain⟨⟨t542,t543⟩,A50,H⟩:=H
 try dsimp only at H
 have A5:=am A50
 clear A50
 replace H:=Option.bind_eq_some_iff.mp H
 obtain⟨⟨t546,t547,t550,t551,t554⟩,A60,H⟩:=H
 try dsimp only at H
 have A6:=am A60
 clear A60
 replace H:=Option.bind_eq_some_iff.mp H
 obtain⟨⟨t557,t558⟩,A70,H⟩:=H
 try dsimp only at H
 have A7:=am A70
 clear A70
 replace H:=Option.bind_eq_some_iff.mp H
 obtain⟨⟨t561,t562⟩,A80,H⟩:=H
 try dsimp only at H
 have A8:=am A80
 clear A80
 replace H:=Option.bind_eq_some_iff.mp H
 obtain⟨⟨t565,t566,t569,t570,t573⟩,A90,H⟩:=H
 try dsimp only at H
 have A9:=am A90
 clear A90
 replace H:=Option.bind_eq_some_iff.mp H
 obtain⟨⟨t576,t577,t580⟩,A100,H⟩:=H
 try dsimp only at H
 have A10:=am A100
 clear A100
 replace H:=Option.bind_eq_some_iff.mp H
 obtain⟨⟨t582,t583,t586⟩,A110,H⟩:=H
 try dsimp only at H
 have A11:=am A110
 clear A110
 replace H:=Option.bind_eq_some_iff.mp H
 obtain⟨⟨t588,t589⟩,A120,H⟩:=H
 try dsimp only at H
 have A12:=am A120
 clear A120
 replace H:=Option.bind_eq_some_iff.mp H
 obtain⟨t592,A130,H⟩:=H
 try dsimp only at H
 have A13:=am A130
 clear A130
 by_cases c14 : t592 = true
 ·subst c14
  have H1 : ((num_Of.f k 1).bind fun bt593=>((whetstonelaw02_same.f k t531 t532 bt593.1 bt593.2).bind fun t597=>(if t597 = true then(if t535 = 0 then((num_Of.f k (-4)).bind fun bt598=>((whetstonelaw02_same.f k t546 t547 bt598.1 bt598.2).bind fun t602=>(if t602 = true then((num_Of.f k (-1)).bind fun bt603=>((whetstonelaw02_same.f k t550 t551 bt603.1 bt603.2).bind fun t607=>(if t607 = true then(if t554 = 0 then((num_Of.f k 3).bind fun bt608=>((whetstonelaw02_same.f k t565 t566 bt608.1 bt608.2).bind fun t612=>(if t612 = true then((num_Of.f k (-1)).bind fun bt613=>((whetstonelaw02_same.f k t569 t570 bt613.1 bt613.2).bind fun t617=>(if t617 = true then(if t573 = 0 then((num_Of.f k (-4)).bind fun bt618=>((num_Of.f k 6).bind fun bt622=>((num_Of.f k 0).bind fun bt626=>((num_Gcd.f k (([(⟨bt618.1,bt618.2⟩ : S25),(⟨bt622.1,bt622.2⟩ : S25),(⟨bt626.1,bt626.2⟩ : S25)] : List (S25)))).bind fun bt633=>((num_Of.f k 2).bind fun bt637=>((whetstonelaw02_same.f k bt633.1 bt633.2 bt637.1 bt637.2).bind fun t641=>(if t641 = true then((num_Text.f k true ([] : List Int)).bind fun t642=>(if t642.toList = ([48] : List UInt8) then(if t580 = true then(some false) else(some (!t586))) else(some false))) else(some false)))))))) else(some false)) else(some false)))) else(some false)))) else(some false)) else(some false)))) else(some false)))) else(some false)) else(some false)))) = some r:=by rw [if_pos rfl] at H;exact H
  clear H
  have H:=H1
  clear H1
  replace H:=Option.bind_eq_some_iff.mp H
  obtain⟨⟨t593,t594⟩,A150,H⟩:=H
  try dsimp only at H
  have A15:=am A150
  clear A150
  replace H:=Option.bind_eq_some_iff.mp H
  obtain⟨t597,A160,H⟩:=H
  try dsimp only at H
  have A16:=am A160
  clear A160
  by_cases c17 : t597 = true
  ·subst c17
   have H1 : (if t535 = 0 then((num_Of.f k (-4)).bind fun bt598=>((whetstonelaw02_same.f k t546 t547 bt598.1 bt598.2).bind fun t602=>(if t602 = true then((num_Of.f k (-1)).bind fun bt603=>((whetstonelaw02_same.f k t550 t551 bt603.1 bt603.2).bind fun t607=>(if t607 = true then(if t554 = 0 then((num_Of.f k 3).bind fun bt608=>((whetstonelaw02_same.f k t565 t566 bt608.1 bt608.2).bind fun t612=>(if t612 = true then((num_Of.f k (-1)).bind fun bt613=>((whetstonelaw02_same.f k t569 t570 bt613.1 bt613.2).bind fun t617=>(if t617 = true then(if t573 = 0 then((num_Of.f k (-4)).bind fun bt618=>((num_Of.f k 6).bind fun bt622=>((num_Of.f k 0).bind fun bt626=>((num_Gcd.f k (([(⟨bt618.1,bt618.2⟩ : S25),(⟨bt622.1,bt622.2⟩ : S25),(⟨bt626.1,bt626.2⟩ : S25)] : List (S25)))).bind fun bt633=>((num_Of.f k 2).bind fun bt637=>((whetstonelaw02_same.f k bt633.1 bt633.2 bt637.1 bt637.2).bind fun t641=>(if t641 = true then((num_Text.f k true ([] : List Int)).bind fun t642=>(if t642.toList = ([48] : List UInt8) then(if t580 = true then(some false) else(some (!t586))) else(some false))) else(some false)))))))) else(some false)) else(some false)))) else(some false)))) else(some false)) else(some false)))) else(some false)))) else(some false)) = some r:=by rw [if_pos rfl] at H;exact H
   clear H
   have H:=H1
   clear H1
   by_cases c18 : t535 = 0
   ·rw [if_pos c18] at H
    have c18b0 : (t535 == 0) = true:=beq_iff_eq.mpr c18
    have c18b1 : (t535 != 0) = false:=bne_eq_false_iff_eq.mpr c18
    clear c18
    replace H:=Option.bind_eq_some_iff.mp H
    obtain⟨⟨t598,t599⟩,A190,H⟩:=H
    try dsimp only at H
    have A19:=am A190
    clear A190
    replace H:=Option.bind_eq_some_iff.mp H
    obtain⟨t602,A200,H⟩:=H
    try dsimp only at H
    have A20:=am A200
    clear A200
    by_cases c21 : t602 = true
    ·subst c21
     have H1 : ((num_Of.f k (-1)).bind fun bt603=>((whetstonelaw02_same.f k t550 t551 bt603.1 bt603.2).bind fun t607=>(if t607 = true then(if t554 = 0 then((num_Of.f k 3).bind fun bt608=>((whetstonelaw02_same.f k t565 t566 bt608.1 bt608.2).bind fun t612=>(if t612 = true then((num_Of.f k (-1)).bind fun bt613=>((whetstonelaw02_same.f k t569 t570 bt613.1 bt613.2).bind fun t617=>(if t617 = true then(if t573 = 0 then((num_Of.f k (-4)).bind fun bt618=>((num_Of.f k 6).bind fun bt622=>((num_Of.f k 0).bind fun bt626=>((num_Gcd.f k (([(⟨bt618.1,bt618.2⟩ : S25),(⟨bt622.1,bt622.2⟩ : S25),(⟨bt626.1,bt626.2⟩ : S25)] : List (S25)))).bind fun bt633=>((num_Of.f k 2).bind fun bt637=>((whetstonelaw02_same.f k bt633.1 bt633.2 bt637.1 bt637.2).bind fun t641=>(if t641 = true then((num_Text.f k true ([] : List Int)).bind fun t642=>(if t642.toList = ([48] : List UInt8) then(if t580 = true then(some false) else(some (!t586))) else(some false))) else(some false)))))))) else(some false)) else(some false)))) else(some false)))) else(some false)) else(some false)))) = some r:=by rw [if_pos rfl] at H;exact H
     clear H
     have H:=H1
     clear H1
     replace H:=Option.bind_eq_some_iff.mp H
     obtain⟨⟨t603,t604⟩,A220,H⟩:=H
     try dsimp only at H
     have A22:=am A220
     clear A220
     replace H:=Option.bind_eq_some_iff.mp H
     obtain⟨t607,A230,H⟩:=H
     try dsimp only at H
     have A23:=am A230
     clear A230
     by_cases c24 : t607 = true
     ·subst c24
      have H1 : (if t554 = 0 then((num_Of.f k 3).bind fun bt608=>((whetstonelaw02_same.f k t565 t566 bt608.1 bt608.2).bind fun t612=>(if t612 = true then((num_Of.f k (-1)).bind fun bt613=>((whetstonelaw02_same.f k t569 t570 bt613.1 bt613.2).bind fun t617=>(if t617 = true then(if t573 = 0 then((num_Of.f k (-4)).bind fun bt618=>((num_Of.f k 6).bind fun bt622=>((num_Of.f k 0).bind fun bt626=>((num_Gcd.f k (([(⟨bt618.1,bt618.2⟩ : S25),(⟨bt622.1,bt622.2⟩ : S25),(⟨bt626.1,bt626.2⟩ : S25)] : List (S25)))).bind fun bt633=>((num_Of.f k 2).bind fun bt637=>((whetstonelaw02_same.f k bt633.1 bt633.2 bt637.1 bt637.2).bind fun t641=>(if t641 = true then((num_Text.f k true ([] : List Int)).bind fun t642=>(if t642.toList = ([48] : List UInt8) then(if t580 = true then(some false) else(some (!t586))) else(some false))) else(some false)))))))) else(some false)) else(some false)))) else(some false)))) else(some false)) = some r:=by rw [if_pos rfl] at H;exact H
      clear H
      have H:=H1
      clear H1
      by_cases c25 : t554 = 0
      ·rw [if_pos c25] at H
       have c25b0 : (t554 == 0) = true:=beq_iff_eq.mpr c25
       have c25b1 : (t554 != 0) = false:=bne_eq_false_iff_eq.mpr c25
       clear c25
       replace H:=Option.bind_eq_some_iff.mp H
       obtain⟨⟨t608,t609⟩,A260,H⟩:=H
       try dsimp only at H
       have A26:=am A260
       clear A260
       replace H:=Option.bind_eq_some_iff.mp H
       obtain⟨t612,A270,H⟩:=H
       try dsimp only at H
       have A27:=am A270
       clear A270
       by_cases c28 : t612 = true
       ·subst c28
        have H1 : ((num_Of.f k (-1)).bind fun bt613=>((whetstonelaw02_same.f k t569 t570 bt613.1 bt613.2).bind fun t617=>(if t617 = true then(if t573 = 0 then((num_Of.f k (-4)).bind fun bt618=>((num_Of.f k 6).bind fun bt622=>((num_Of.f k 0).bind fun bt626=>((num_Gcd.f k (([(⟨bt618.1,bt618.2⟩ : S25),(⟨bt622.1,bt622.2⟩ : S25),(⟨bt626.1,bt626.2⟩ : S25)] : List (S25)))).bind fun bt633=>((num_Of.f k 2).bind fun bt637=>((whetstonelaw02_same.f k bt633.1 bt633.2 bt637.1 bt637.2).bind fun t641=>(if t641 = true then((num_Text.f k true ([] : List Int)).bind fun t642=>(if t642.toList = ([48] : List UInt8) then(if t580 = true then(some false) else(some (!t586))) else(some false))) else(some false)))))))) else(some false)) else(some false)))) = some r:=by rw [if_pos rfl] at H;exact H
        clear H
        have H:=H1
        clear H1
        replace H:=Option.bind_eq_some_iff.mp H
        obtain⟨⟨t613,t614⟩,A290,H⟩:=H
        try dsimp only at H
        have A29:=am A290
        clear A290
        replace H:=Option.bind_eq_some_iff.mp H
        obtain⟨t617,A300,H⟩:=H
        try dsimp only at H
        have A30:=am A300
        clear A300
        by_cases c31 : t617 = true
        ·subst c31
         have H1 : (if t573 = 0 then((num_Of.f k (-4)).bind fun bt618=>((num_Of.f k 6).bind fun bt622=>((num_Of.f k 0).bind fun bt626=>((num_Gcd.f k (([(⟨bt618.1,bt618.2⟩ : S25),(⟨bt622.1,bt622.2⟩ : S25),(⟨bt626.1,bt626.2⟩ : S25)] : List (S25)))).bind fun bt633=>((num_Of.f k 2).bind fun bt637=>((whetstonelaw02_same.f k bt633.1 bt633.2 bt637.1 bt637.2).bind fun t641=>(if t641 = true then((num_Text.f k true ([] : List Int)).bind fun t642=>(if t642.toList = ([48] : List UInt8) then(if t580 = true then(some false) else(some (!t586))) else(some false))) else(some false)))))))) else(some false)) = some r:=by rw [if_pos rfl] at H;exact H
         clear H
         have H:=H1
         clear H1
         by_cases c32 : t573 = 0
         ·rw [if_pos c32] at H
          have c32b0 : (t573 == 0) = true:=beq_iff_eq.mpr c32
          have c32b1 : (t573 != 0) = false:=bne_eq_false_iff_eq.mpr c32
          clear c32
          replace H:=Option.bind_eq_some_iff.mp H
          obtain⟨⟨t618,t619⟩,A330,H⟩:=H
          try dsimp only at H
          have A33:=am A330
          clear A330
          replace H:=Option.bind_eq_some_iff.mp H
          obtain⟨⟨t622,t623⟩,A340,H⟩:=H
          try dsimp only at H
          have A34:=am A340
          clear A340
          replace H:=Option.bind_eq_some_iff.mp H
          obtain⟨⟨t626,t627⟩,A350,H⟩:=H
          try dsimp only at H
          have A35:=am A350
          clear A350
          obtain⟨y630,hy630⟩ : ∃ y_ : List (S25),y_ = (([(⟨t618,t619⟩ : S25),(⟨t622,t623⟩ : S25),(⟨t626,t627⟩ : S25)] : List (S25))):=⟨_,rfl⟩
          replace H : ((num_Gcd.f k y630).bind fun bt633=>((num_Of.f k 2).bind fun bt637=>((whetstonelaw02_same.f k bt633.1 bt633.2 bt637.1 bt637.2).bind fun t641=>(if t641 = true then((num_Text.f k true ([] : List Int)).bind fun t642=>(if t642.toList = ([48] : List UInt8) then(if t580 = true then(some false) else(some (!t586))) else(some false))) else(some false))))) = some r:=by first |(rw [hy630];with_reducible exact H) |(have H2_:=(Option.bind_some _ _).symm.trans H;rw [hy630];with_reducible exact H2_) |(have H2_:=(Option.bind_some _ _).symm.trans H;with_reducible exact H2_) | with_reducible exact H |(rw [hy630];exact H) | exact H
          have Ny630:=am hy630
          clear hy630
          replace H:=Option.bind_eq_some_iff.mp H
          obtain⟨⟨t633,t634⟩,A360,H⟩:=H
          try dsimp only at H
          have A36:=am A360
          clear A360
          replace H:=Option.bind_eq_some_iff.mp H
          obtain⟨⟨t637,t638⟩,A370,H⟩:=H
          try dsimp only at H
          have A37:=am A370
          clear A370
          replace H:=Option.bind_eq_some_iff.mp H
          obtain⟨t641,A380,H⟩:=H
          try dsimp only at H
          have A38:=am A380
          clear A380
          by_cases c39 : t641 = true
          ·subst c39
           have H1 : ((num_Text.f k true ([] : List Int)).bind fun t642=>(if t642.toList = ([48] : List UInt8) then(if t580 = true then(some false) else(some (!t586))) else(some false))) = some r:=by rw [if_pos rfl] at H;exact H
           clear H
           have H:=H1
           clear H1
           replace H:=Option.bind_eq_some_iff.mp H
           obtain⟨t642,A400,H⟩:=H
           try dsimp only at H
           have A40:=am A400
           clear A400
           by_cases c41 : t642.toList = ([48] : List UInt8)
           ·rw [if_pos c41] at H
            have c41b0 : (t642.toList == ([48] : List UInt8)) = true:=beq_iff_eq.mpr c41
            have c41b1 : (t642.toList != ([48] : List UInt8)) = false:=bne_eq_false_iff_eq.mpr c41
            clear c41
            by_cases c42 : t580 = true
            ·subst c42
             have H1 : (some false) = some r:=by rw [if_pos rfl] at H;exact H
             clear H
             have H:=H1
             clear H1
             exact absurd ((Option.some.inj H).trans HRT.out) (by decide)
            ·replace c42:=Bool.eq_false_iff.mpr c42
             subst c42
             have H1 : (some (!t586)) = some r:=by rw [if_neg (show ¬ (false = true) by decide)] at H;exact H
             clear H
             have H:=H1
             clear H1
             obtain rfl:=Option.some.inj H
             go_enter Tryz.func6,Tryz.ntmps6
             try go_wp2_with (first |((with_reducible refine gate_callee (f:=10) rfl ?_);refine goesL_ (some 15) rfl rfl Tryz.func10 (by kernel_rfl) rfl #[.int .i64 (-7)] rfl zl ?_;(with_reducible refine(num_Of.calls k (-7) t519 t520 _ A1.out).mono ?_);rintro e w43 ⟨v521,rfl,ho0,hb⟩;refine⟨_,rfl,?_⟩;have HO522:=am (Kd.V_lower (Kd.V_mono (ok':=fun k_=>True) ho0 (fun k_ hk_=>trivial)) (below_size zb));replace HB:=am (below_step zb hb);(try clear hb);(try clear ho0)) |((with_reducible refine gate_callee (f:=10) rfl ?_);refine goesL_ (some 16) rfl rfl Tryz.func10 (by kernel_rfl) rfl #[.int .i64 2] rfl zl ?_;(with_reducible refine(num_Of.calls k 2 t523 t524 _ A2.out).mono ?_);rintro e w44 ⟨v525,rfl,ho0,hb⟩;refine⟨_,rfl,?_⟩;replace HO522:=vb HO522 hb;have HO526:=am (Kd.V_lower (Kd.V_mono (ok':=fun k_=>True) ho0 (fun k_ hk_=>trivial)) (below_size zb));replace HB:=am (below_step zb hb);(try clear hb);(try clear ho0);obtain⟨Ao45,co45,eo45⟩:=Kd.V_slice HO522.out;subst eo45;obtain⟨Ao46,co46,eo46⟩:=Kd.V_slice HO526.out;subst eo46) |((with_reducible refine gate_callee (f:=26) rfl ?_);refine goesL_ (some 17) rfl rfl Tryz.func26 (by kernel_rfl) rfl #[.agg #[.bool t519,.slice Ao45 t520.length co45],.agg #[.bool t523,.slice Ao46 t524.length co46]] rfl zl ?_;(with_reducible refine(num_DivMod.calls k t519 _ _ t520 t523 _ _ t524 t527 t528 t531 t532 t535 _ ?side1 ?side2 ?side3 ?side4 A3.out).mono ?_);(case side1=>exact zC (Kd.V_reads' HO522.out).2.2);(case side2=>exact(Kd.V_reads' HO522.out).2.1);(case side3=>exact zC (Kd.V_reads' HO526.out).2.2);(case side4=>exact(Kd.V_reads' HO526.out).2.1);rintro e w47 ⟨v529,v533,rfl,ho0,ho1,hb⟩;refine⟨_,rfl,?_⟩;replace HO522:=vb HO522 hb;replace HO526:=vb HO526 hb;have HO530:=am (Kd.V_lower (Kd.V_mono (ok':=fun k_=>True) ho0 (fun k_ hk_=>trivial)) (below_size zb));have HO534:=am (Kd.V_lower (Kd.V_mono (ok':=fun k_=>True) ho1 (fun k_ hk_=>trivial)) (below_size zb));replace HB:=am (below_step zb hb);(try clear hb);(try clear ho0);(try clear ho1);clear HO522 HO526) |((with_reducible refine gate_dst (N:=1) rfl ?_);(try (refine gate_guard (by rfl) ?_;dsimp only));refine box_event ?hg (N:=1) ?hd (cs:=#[.bool false,.slice none 0 0]) (t:=25) ?hr ?_;(case hd=>rfl);(case hg=>rfl);(case hr=>exact zh);intro gb536 hg w48 hbox hb;replace HO530:=vB gb536 HO530 hg hb;replace HO534:=vB gb536 HO534 hg hb;have BK536:=am (hbox);have GW536:=gw w hg;have GE536:=gw w hg;replace HB:=am (below_step zb hb);clear hb hbox hg) |((with_reducible refine gate_dst (N:=2) rfl ?_);(try (refine gate_guard (by rfl) ?_;dsimp only));refine box_event ?hg (N:=2) ?hd (cs:=#[.bool false,.slice none 0 0]) (t:=25) ?hr ?_;(case hd=>rfl);(case hg=>rfl);(case hr=>exact zh);intro gb537 hg w49 hbox hb;replace HO530:=vB gb537 HO530 hg hb;replace HO534:=vB gb537 HO534 hg hb;have BK537:=am (hbox);have GW537:=gw w hg;have GE537:=gw w hg;replace HB:=am (below_step zb hb);have NB536_537:=nl BK536 hg;have NB537_536:=nr BK536 hg;replace BK536:=kb BK536 hb;clear hb hbox hg;have hnb50:=NB536_537.out;have hnc50:=NB537_536.out;have hcz51_0 : w49.cell? ⟨gb536,0,none⟩ = some (.bool false):=(blk_cell BK536.out 0).trans rfl;have hcz51_1 : w49.cell? ⟨gb536,1,none⟩ = some (.slice none 0 0):=(blk_cell BK536.out 1).trans rfl;have hfz51_0:=blk_frozen BK536.out 0;have hfz51_1:=blk_frozen BK536.out 1;obtain⟨Ao52,co52,eo52⟩:=Kd.V_slice HO530.out;subst eo52;have hcz53_0 : w49.cell? ⟨gb537,0,none⟩ = some (.bool false):=(blk_cell BK537.out 0).trans rfl;have hcz53_1 : w49.cell? ⟨gb537,1,none⟩ = some (.slice none 0 0):=(blk_cell BK537.out 1).trans rfl;have hfz53_0:=blk_frozen BK537.out 0;have hfz53_1:=blk_frozen BK537.out 1;obtain⟨Ao54,co54,eo54⟩:=Kd.V_slice HO534.out;subst eo54) |((with_reducible refine gate_callee (f:=10) rfl ?_);refine goesL_ (some 22) rfl rfl Tryz.func10 (by kernel_rfl) rfl #[.int .i64 7] rfl zl ?_;(with_reducible refine(num_Of.calls k 7 t538 t539 _ A4.out).mono ?_);rintro e w55 ⟨v540,rfl,ho0,hb⟩;refine⟨_,rfl,?_⟩;replace HO530:=am (Kd.V_below (by refine zV ?_;exact(Kd.V_mono (Kd.V_mono (Kd.V_far (p:=⟨gb537,1,none⟩) (Kd.V_far (p:=⟨gb537,0,none⟩) (Kd.V_far (p:=⟨gb536,1,none⟩) (Kd.V_far (p:=⟨gb536,0,none⟩) (Kd.V_mono (Kd.V_mono HO530.out (fun k_ hk=>(⟨hk,hk.1.2⟩ : _∧k_≠gb536))) (fun k_ hk=>(⟨hk,hk.1.2⟩ : _∧k_≠gb537))) (fun _ hk=>hk.1.2) (.bool t527)) (fun _ hk=>hk.1.2) (.slice Ao52 t528.length co52)) (fun _ hk=>hk.2) (.bool t531)) (fun _ hk=>hk.2) (.slice Ao54 t532.length co54)) (fun _ h_=>h_.1)) (fun _ h_=>h_.1))) hb);replace HO534:=am (Kd.V_below (by refine zV ?_;exact(Kd.V_mono (Kd.V_mono (Kd.V_far (p:=⟨gb537,1,none⟩) (Kd.V_far (p:=⟨gb537,0,none⟩) (Kd.V_far (p:=⟨gb536,1,none⟩) (Kd.V_far (p:=⟨gb536,0,none⟩) (Kd.V_mono (Kd.V_mono HO534.out (fun k_ hk=>(⟨hk,hk.1.2⟩ : _∧k_≠gb536))) (fun k_ hk=>(⟨hk,hk.1.2⟩ : _∧k_≠gb537))) (fun _ hk=>hk.1.2) (.bool t527)) (fun _ hk=>hk.1.2) (.slice Ao52 t528.length co52)) (fun _ hk=>hk.2) (.bool t531)) (fun _ hk=>hk.2) (.slice Ao54 t532.length co54)) (fun _ h_=>h_.1)) (fun _ h_=>h_.1))) hb);have HO541:=am (Kd.V_lower (Kd.V_mono (ok':=fun k_=>k_≠gb536∧k_≠gb537) ho0 (fun k_ hk_=>⟨(Kd.freshB (g:=gb536) (o:=.cells #[.bool t527,.slice Ao52 t528.length co52] 25 (0,0)) (by refine zk ?_;refine blk_far ?_ NB536_537.out _;refine zk ?_;refine blk_far ?_ NB536_537.out _;refine zk ?_;refine blk_put (cs:=#[.bool t527,.slice none 0 0]) ?_ 1 _ rfl;refine zk ?_;refine blk_put (cs:=#[.bool false,.slice none 0 0]) ?_ 0 _ rfl;refine zk ?_;exact BK536.out) k_ hk_),(Kd.freshB (g:=gb537) (o:=.cells #[.bool t531,.slice Ao54 t532.length co54] 25 (0,0)) (by refine zk ?_;refine blk_put (cs:=#[.bool t531,.slice none 0 0]) ?_ 1 _ rfl;refine zk ?_;refine blk_put (cs:=#[.bool false,.slice none 0 0]) ?_ 0 _ rfl;refine zk ?_;refine blk_far ?_ NB537_536.out _;refine zk ?_;refine blk_far ?_ NB537_536.out _;refine zk ?_;exact BK537.out) k_ hk_)⟩)) (below_size zb));replace BK536:=am (blk_below (g:=gb536) (o:=.cells #[.bool t527,.slice Ao52 t528.length co52] 25 (0,0)) (by refine zk ?_;refine blk_far ?_ NB536_537.out _;refine zk ?_;refine blk_far ?_ NB536_537.out _;refine zk ?_;refine blk_put (cs:=#[.bool t527,.slice none 0 0]) ?_ 1 _ rfl;refine zk ?_;refine blk_put (cs:=#[.bool false,.slice none 0 0]) ?_ 0 _ rfl;refine zk ?_;exact BK536.out) hb);replace BK537:=am (blk_below (g:=gb537) (o:=.cells #[.bool t531,.slice Ao54 t532.length co54] 25 (0,0)) (by refine zk ?_;refine blk_put (cs:=#[.bool t531,.slice none 0 0]) ?_ 1 _ rfl;refine zk ?_;refine blk_put (cs:=#[.bool false,.slice none 0 0]) ?_ 0 _ rfl;refine zk ?_;refine blk_far ?_ NB537_536.out _;refine zk ?_;refine blk_far ?_ NB537_536.out _;refine zk ?_;exact BK537.out) hb);replace HB:=am (below_step zb hb);(try clear hb);(try clear ho0)) |((with_reducible refine gate_callee (f:=10) rfl ?_);refine goesL_ (some 23) rfl rfl Tryz.func10 (by kernel_rfl) rfl #[.int .i64 (-2)] rfl zl ?_;(with_reducible refine(num_Of.calls k (-2) t542 t543 _ A5.out).mono ?_);rintro e w56 ⟨v544,rfl,ho0,hb⟩;refine⟨_,rfl,?_⟩;replace HO530:=vb HO530 hb;replace HO534:=vb HO534 hb;replace HO541:=vb HO541 hb;have HO545:=am (Kd.V_lower (Kd.V_mono (ok':=fun k_=>k_≠gb536∧k_≠gb537) ho0 (fun k_ hk_=>⟨(fb BK536 k_ hk_),(fb BK537 k_ hk_)⟩)) (below_size zb));replace BK536:=kb BK536 hb;replace BK537:=kb BK537 hb;replace HB:=am (below_step zb hb);(try clear hb);(try clear ho0);obtain⟨Ao57,co57,eo57⟩:=Kd.V_slice HO541.out;subst eo57;obtain⟨Ao58,co58,eo58⟩:=Kd.V_slice HO545.out;subst eo58) |((with_reducible refine gate_callee (f:=26) rfl ?_);refine goesL_ (some 24) rfl rfl Tryz.func26 (by kernel_rfl) rfl #[.agg #[.bool t538,.slice Ao57 t539.length co57],.agg #[.bool t542,.slice Ao58 t543.length co58]] rfl zl ?_;(with_reducible refine(num_DivMod.calls k t538 _ _ t539 t542 _ _ t543 t546 t547 t550 t551 t554 _ ?side1 ?side2 ?side3 ?side4 A6.out).mono ?_);(case side1=>exact zC (Kd.V_reads' HO541.out).2.2);(case side2=>exact(Kd.V_reads' HO541.out).2.1);(case side3=>exact zC (Kd.V_reads' HO545.out).2.2);(case side4=>exact(Kd.V_reads' HO545.out).2.1);rintro e w59 ⟨v548,v552,rfl,ho0,ho1,hb⟩;refine⟨_,rfl,?_⟩;replace HO530:=vb HO530 hb;replace HO534:=vb HO534 hb;replace HO541:=vb HO541 hb;replace HO545:=vb HO545 hb;have HO549:=am (Kd.V_lower (Kd.V_mono (ok':=fun k_=>k_≠gb536∧k_≠gb537) ho0 (fun k_ hk_=>⟨(fb BK536 k_ hk_),(fb BK537 k_ hk_)⟩)) (below_size zb));have HO553:=am (Kd.V_lower (Kd.V_mono (ok':=fun k_=>k_≠gb536∧k_≠gb537) ho1 (fun k_ hk_=>⟨(fb BK536 k_ hk_),(fb BK537 k_ hk_)⟩)) (below_size zb));replace BK536:=kb BK536 hb;replace BK537:=kb BK537 hb;replace HB:=am (below_step zb hb);(try clear hb);(try clear ho0);(try clear ho1);clear HO541 HO545) |((with_reducible refine gate_dst (N:=4) rfl ?_);(try (refine gate_guard (by rfl) ?_;dsimp only));refine box_event ?hg (N:=4) ?hd (cs:=#[.bool false,.slice none 0 0]) (t:=25) ?hr ?_;(case hd=>rfl);(case hg=>rfl);(case hr=>exact zh);intro gb555 hg w60 hbox hb;replace HO530:=vB gb555 HO530 hg hb;replace HO534:=vB gb555 HO534 hg hb;replace HO549:=vB gb555 HO549 hg hb;replace HO553:=vB gb555 HO553 hg hb;have BK555:=am (hbox);have GW555:=gw w hg;have GE555:=gw w hg;replace HB:=am (below_step zb hb);have NB536_555:=nl BK536 hg;have NB555_536:=nr BK536 hg;replace BK536:=kb BK536 hb;have NB537_555:=nl BK537 hg;have NB555_537:=nr BK537 hg;replace BK537:=kb BK537 hb;clear hb hbox hg) |((with_reducible refine gate_dst (N:=5) rfl ?_);(try (refine gate_guard (by rfl) ?_;dsimp only));refine box_event ?hg (N:=5) ?hd (cs:=#[.bool false,.slice none 0 0]) (t:=25) ?hr ?_;(case hd=>rfl);(case hg=>rfl);(case hr=>exact zh);intro gb556 hg w61 hbox hb;replace HO530:=vB gb556 HO530 hg hb;replace HO534:=vB gb556 HO534 hg hb;replace HO549:=vB gb556 HO549 hg hb;replace HO553:=vB gb556 HO553 hg hb;have BK556:=am (hbox);have GW556:=gw w hg;have GE556:=gw w hg;replace HB:=am (below_step zb hb);have NB536_556:=nl BK536 hg;have NB556_536:=nr BK536 hg;replace BK536:=kb BK536 hb;have NB537_556:=nl BK537 hg;have NB556_537:=nr BK537 hg;replace BK537:=kb BK537 hb;have NB555_556:=nl BK555 hg;have NB556_555:=nr BK555 hg;replace BK555:=kb BK555 hb;clear hb hbox hg;have hnb62:=NB555_536.out;have hnc62:=NB536_555.out;have hnb63:=NB555_537.out;have hnc63:=NB537_555.out;have hnb64:=NB555_556.out;have hnc64:=NB556_555.out;have hcz65_0 : w61.cell? ⟨gb555,0,none⟩ = some (.bool false):=(blk_cell BK555.out 0).trans rfl;have hcz65_1 : w61.cell? ⟨gb555,1,none⟩ = some (.slice none 0 0):=(blk_cell BK555.out 1).trans rfl;have hfz65_0:=blk_frozen BK555.out 0;have hfz65_1:=blk_frozen BK555.out 1;obtain⟨Ao66,co66,eo66⟩:=Kd.V_slice HO549.out;subst eo66;have hnb67:=NB556_536.out;have hnc67:=NB536_556.out;have hnb68:=NB556_537.out;have hnc68:=NB537_556.out;have hcz69_0 : w61.cell? ⟨gb556,0,none⟩ = some (.bool false):=(blk_cell BK556.out 0).trans rfl;have hcz69_1 : w61.cell? ⟨gb556,1,none⟩ = some (.slice none 0 0):=(blk_cell BK556.out 1).trans rfl;have hfz69_0:=blk_frozen BK556.out 0;have hfz69_1:=blk_frozen BK556.out 1;obtain⟨Ao70,co70,eo70⟩:=Kd.V_slice HO553.out;subst eo70) |((with_reducible refine gate_callee (f:=10) rfl ?_);refine goesL_ (some 29) rfl rfl Tryz.func10 (by kernel_rfl) rfl #[.int .i64 (-7)] rfl zl ?_;(with_reducible refine(num_Of.calls k (-7) t557 t558 _ A7.out).mono ?_);rintro e w71 ⟨v559,rfl,ho0,hb⟩;refine⟨_,rfl,?_⟩;replace HO530:=am (Kd.V_below (by refine zV ?_;exact(Kd.V_mono (Kd.V_mono (Kd.V_far (p:=⟨gb556,1,none⟩) (Kd.V_far (p:=⟨gb556,0,none⟩) (Kd.V_far (p:=⟨gb555,1,none⟩) (Kd.V_far (p:=⟨gb555,0,none⟩) (Kd.V_mono (Kd.V_mono HO530.out (fun k_ hk=>(⟨hk,hk.1.2⟩ : _∧k_≠gb555))) (fun k_ hk=>(⟨hk,hk.1.2⟩ : _∧k_≠gb556))) (fun _ hk=>hk.1.2) (.bool t546)) (fun _ hk=>hk.1.2) (.slice Ao66 t547.length co66)) (fun _ hk=>hk.2) (.bool t550)) (fun _ hk=>hk.2) (.slice Ao70 t551.length co70)) (fun _ h_=>h_.1)) (fun _ h_=>h_.1))) hb);replace HO534:=am (Kd.V_below (by refine zV ?_;exact(Kd.V_mono (Kd.V_mono (Kd.V_far (p:=⟨gb556,1,none⟩) (Kd.V_far (p:=⟨gb556,0,none⟩) (Kd.V_far (p:=⟨gb555,1,none⟩) (Kd.V_far (p:=⟨gb555,0,none⟩) (Kd.V_mono (Kd.V_mono HO534.out (fun k_ hk=>(⟨hk,hk.1.2⟩ : _∧k_≠gb555))) (fun k_ hk=>(⟨hk,hk.1.2⟩ : _∧k_≠gb556))) (fun _ hk=>hk.1.2) (.bool t546)) (fun _ hk=>hk.1.2) (.slice Ao66 t547.length co66)) (fun _ hk=>hk.2) (.bool t550)) (fun _ hk=>hk.2) (.slice Ao70 t551.length co70)) (fun _ h_=>h_.1)) (fun _ h_=>h_.1))) hb);replace HO549:=am (Kd.V_below (by refine zV ?_;exact(Kd.V_mono (Kd.V_mono (Kd.V_far (p:=⟨gb556,1,none⟩) (Kd.V_far (p:=⟨gb556,0,none⟩) (Kd.V_far (p:=⟨gb555,1,none⟩) (Kd.V_far (p:=⟨gb555,0,none⟩) (Kd.V_mono (Kd.V_mono HO549.out (fun k_ hk=>(⟨hk,hk.1.2⟩ : _∧k_≠gb555))) (fun k_ hk=>(⟨hk,hk.1.2⟩ : _∧k_≠gb556))) (fun _ hk=>hk.1.2) (.bool t546)) (fun _ hk=>hk.1.2) (.slice Ao66 t547.length co66)) (fun _ hk=>hk.2) (.bool t550)) (fun _ hk=>hk.2) (.slice Ao70 t551.length co70)) (fun _ h_=>h_.1)) (fun _ h_=>h_.1))) hb);replace HO553:=am (Kd.V_below (by refine zV ?_;exact(Kd.V_mono (Kd.V_mono (Kd.V_far (p:=⟨gb556,1,none⟩) (Kd.V_far (p:=⟨gb556,0,none⟩) (Kd.V_far (p:=⟨gb555,1,none⟩) (Kd.V_far (p:=⟨gb555,0,none⟩) (Kd.V_mono (Kd.V_mono HO553.out (fun k_ hk=>(⟨hk,hk.1.2⟩ : _∧k_≠gb555))) (fun k_ hk=>(⟨hk,hk.1.2⟩ : _∧k_≠gb556))) (fun _ hk=>hk.1.2) (.bool t546)) (fun _ hk=>hk.1.2) (.slice Ao66 t547.length co66)) (fun _ hk=>hk.2) (.bool t550)) (fun _ hk=>hk.2) (.slice Ao70 t551.length co70)) (fun _ h_=>h_.1)) (fun _ h_=>h_.1))) hb);have HO560:=am (Kd.V_lower (Kd.V_mono (ok':=fun k_=>k_≠gb536∧k_≠gb537∧k_≠gb555∧k_≠gb556) ho0 (fun k_ hk_=>⟨(Kd.freshB (g:=gb536) (o:=.cells #[.bool t527,.slice Ao52 t528.length co52] 25 (0,0)) (by refine zk ?_;refine blk_far ?_ NB536_556.out _;refine zk ?_;refine blk_far ?_ NB536_556.out _;refine zk ?_;refine blk_far ?_ NB536_555.out _;refine zk ?_;refine blk_far ?_ NB536_555.out _;refine zk ?_;exact BK536.out) k_ hk_),(Kd.freshB (g:=gb537) (o:=.cells #[.bool t531,.slice Ao54 t532.length co54] 25 (0,0)) (by refine zk ?_;refine blk_far ?_ NB537_556.out _;refine zk ?_;refine blk_far ?_ NB537_556.out _;refine zk ?_;refine blk_far ?_ NB537_555.out _;refine zk ?_;refine blk_far ?_ NB537_555.out _;refine zk ?_;exact BK537.out) k_ hk_),(Kd.freshB (g:=gb555) (o:=.cells #[.bool t546,.slice Ao66 t547.length co66] 25 (0,0)) (by refine zk ?_;refine blk_far ?_ NB555_556.out _;refine zk ?_;refine blk_far ?_ NB555_556.out _;refine zk ?_;refine blk_put (cs:=#[.bool t546,.slice none 0 0]) ?_ 1 _ rfl;refine zk ?_;refine blk_put (cs:=#[.bool false,.slice none 0 0]) ?_ 0 _ rfl;refine zk ?_;exact BK555.out) k_ hk_),(Kd.freshB (g:=gb556) (o:=.cells #[.bool t550,.slice Ao70 t551.length co70] 25 (0,0)) (by refine zk ?_;refine blk_put (cs:=#[.bool t550,.slice none 0 0]) ?_ 1 _ rfl;refine zk ?_;refine blk_put (cs:=#[.bool false,.slice none 0 0]) ?_ 0 _ rfl;refine zk ?_;refine blk_far ?_ NB556_555.out _;refine zk ?_;refine blk_far ?_ NB556_555.out _;refine zk ?_;exact BK556.out) k_ hk_)⟩)) (below_size zb));replace BK536:=am (blk_below (g:=gb536) (o:=.cells #[.bool t527,.slice Ao52 t528.length co52] 25 (0,0)) (by refine zk ?_;refine blk_far ?_ NB536_556.out _;refine zk ?_;refine blk_far ?_ NB536_556.out _;refine zk ?_;refine blk_far ?_ NB536_555.out _;refine zk ?_;refine blk_far ?_ NB536_555.out _;refine zk ?_;exact BK536.out) hb);replace BK537:=am (blk_below (g:=gb537) (o:=.cells #[.bool t531,.slice Ao54 t532.length co54] 25 (0,0)) (by refine zk ?_;refine blk_far ?_ NB537_556.out _;refine zk ?_;refine blk_far ?_ NB537_556.out _;refine zk ?_;refine blk_far ?_ NB537_555.out _;refine zk ?_;refine blk_far ?_ NB537_555.out _;refine zk ?_;exact BK537.out) hb);replace BK555:=am (blk_below (g:=gb555) (o:=.cells #[.bool t546,.slice Ao66 t547.length co66] 25 (0,0)) (by refine zk ?_;refine blk_far ?_ NB555_556.out _;refine zk ?_;refine blk_far ?_ NB555_556.out _;refine zk ?_;refine blk_put (cs:=#[.bool t546,.slice none 0 0]) ?_ 1 _ rfl;refine zk ?_;refine blk_put (cs:=#[.bool false,.slice none 0 0]) ?_ 0 _ rfl;refine zk ?_;exact BK555.out) hb);replace BK556:=am (blk_below (g:=gb556) (o:=.cells #[.bool t550,.slice Ao70 t551.length co70] 25 (0,0)) (by refine zk ?_;refine blk_put (cs:=#[.bool t550,.slice none 0 0]) ?_ 1 _ rfl;refine zk ?_;refine blk_put (cs:=#[.bool false,.slice none 0 0]) ?_ 0 _ rfl;refine zk ?_;refine blk_far ?_ NB556_555.out _;refine zk ?_;refine blk_far ?_ NB556_555.out _;refine zk ?_;exact BK556.out) hb);replace HB:=am (below_step zb hb);(try clear hb);(try clear ho0)) |((with_reducible refine gate_callee (f:=10) rfl ?_);refine goesL_ (some 30) rfl rfl Tryz.func10 (by kernel_rfl) rfl #[.int .i64 (-2)] rfl zl ?_;(with_reducible refine(num_Of.calls k (-2) t561 t562 _ A8.out).mono ?_);rintro e w72 ⟨v563,rfl,ho0,hb⟩;refine⟨_,rfl,?_⟩;replace HO530:=vb HO530 hb;replace HO534:=vb HO534 hb;replace HO549:=vb HO549 hb;replace HO553:=vb HO553 hb;replace HO560:=vb HO560 hb;have HO564:=am (Kd.V_lower (Kd.V_mono (ok':=fun k_=>k_≠gb536∧k_≠gb537∧k_≠gb555∧k_≠gb556) ho0 (fun k_ hk_=>⟨(fb BK536 k_ hk_),(fb BK537 k_ hk_),(fb BK555 k_ hk_),(fb BK556 k_ hk_)⟩)) (below_size zb));replace BK536:=kb BK536 hb;replace BK537:=kb BK537 hb;replace BK555:=kb BK555 hb;replace BK556:=kb BK556 hb;replace HB:=am (below_step zb hb);(try clear hb);(try clear ho0);obtain⟨Ao73,co73,eo73⟩:=Kd.V_slice HO560.out;subst eo73;obtain⟨Ao74,co74,eo74⟩:=Kd.V_slice HO564.out;subst eo74) |((with_reducible refine gate_callee (f:=26) rfl ?_);refine goesL_ (some 31) rfl rfl Tryz.func26 (by kernel_rfl) rfl #[.agg #[.bool t557,.slice Ao73 t558.length co73],.agg #[.bool t561,.slice Ao74 t562.length co74]] rfl zl ?_;(with_reducible refine(num_DivMod.calls k t557 _ _ t558 t561 _ _ t562 t565 t566 t569 t570 t573 _ ?side1 ?side2 ?side3 ?side4 A9.out).mono ?_);(case side1=>exact zC (Kd.V_reads' HO560.out).2.2);(case side2=>exact(Kd.V_reads' HO560.out).2.1);(case side3=>exact zC (Kd.V_reads' HO564.out).2.2);(case side4=>exact(Kd.V_reads' HO564.out).2.1);rintro e w75 ⟨v567,v571,rfl,ho0,ho1,hb⟩;refine⟨_,rfl,?_⟩;replace HO530:=vb HO530 hb;replace HO534:=vb HO534 hb;replace HO549:=vb HO549 hb;replace HO553:=vb HO553 hb;replace HO560:=vb HO560 hb;replace HO564:=vb HO564 hb;have HO568:=am (Kd.V_lower (Kd.V_mono (ok':=fun k_=>k_≠gb536∧k_≠gb537∧k_≠gb555∧k_≠gb556) ho0 (fun k_ hk_=>⟨(fb BK536 k_ hk_),(fb BK537 k_ hk_),(fb BK555 k_ hk_),(fb BK556 k_ hk_)⟩)) (below_size zb));have HO572:=am (Kd.V_lower (Kd.V_mono (ok':=fun k_=>k_≠gb536∧k_≠gb537∧k_≠gb555∧k_≠gb556) ho1 (fun k_ hk_=>⟨(fb BK536 k_ hk_),(fb BK537 k_ hk_),(fb BK555 k_ hk_),(fb BK556 k_ hk_)⟩)) (below_size zb));replace BK536:=kb BK536 hb;replace BK537:=kb BK537 hb;replace BK555:=kb BK555 hb;replace BK556:=kb BK556 hb;replace HB:=am (below_step zb hb);(try clear hb);(try clear ho0);(try clear ho1);clear HO560 HO564) |((with_reducible refine gate_dst (N:=7) rfl ?_);(try (refine gate_guard (by rfl) ?_;dsimp only));refine box_event ?hg (N:=7) ?hd (cs:=#[.bool false,.slice none 0 0]) (t:=25) ?hr ?_;(case hd=>rfl);(case hg=>rfl);(case hr=>exact zh);intro gb574 hg w76 hbox hb;replace HO530:=vB gb574 HO530 hg hb;replace HO534:=vB gb574 HO534 hg hb;replace HO549:=vB gb574 HO549 hg hb;replace HO553:=vB gb574 HO553 hg hb;replace HO568:=vB gb574 HO568 hg hb;replace HO572:=vB gb574 HO572 hg hb;have BK574:=am (hbox);have GW574:=gw w hg;have GE574:=gw w hg;replace HB:=am (below_step zb hb);have NB536_574:=nl BK536 hg;have NB574_536:=nr BK536 hg;replace BK536:=kb BK536 hb;have NB537_574:=nl BK537 hg;have NB574_537:=nr BK537 hg;replace BK537:=kb BK537 hb;have NB555_574:=nl BK555 hg;have NB574_555:=nr BK555 hg;replace BK555:=kb BK555 hb;have NB556_574:=nl BK556 hg;have NB574_556:=nr BK556 hg;replace BK556:=kb BK556 hb;clear hb hbox hg) |((with_reducible refine gate_dst (N:=8) rfl ?_);(try (refine gate_guard (by rfl) ?_;dsimp only));refine box_event ?hg (N:=8) ?hd (cs:=#[.bool false,.slice none 0 0]) (t:=25) ?hr ?_;(case hd=>rfl);(case hg=>rfl);(case hr=>exact zh);intro gb575 hg w77 hbox hb;replace HO530:=vB gb575 HO530 hg hb;replace HO534:=vB gb575 HO534 hg hb;replace HO549:=vB gb575 HO549 hg hb;replace HO553:=vB gb575 HO553 hg hb;replace HO568:=vB gb575 HO568 hg hb;replace HO572:=vB gb575 HO572 hg hb;have BK575:=am (hbox);have GW575:=gw w hg;have GE575:=gw w hg;replace HB:=am (below_step zb hb);have NB536_575:=nl BK536 hg;have NB575_536:=nr BK536 hg;replace BK536:=kb BK536 hb;have NB537_575:=nl BK537 hg;have NB575_537:=nr BK537 hg;replace BK537:=kb BK537 hb;have NB555_575:=nl BK555 hg;have NB575_555:=nr BK555 hg;replace BK555:=kb BK555 hb;have NB556_575:=nl BK556 hg;have NB575_556:=nr BK556 hg;replace BK556:=kb BK556 hb;have NB574_575:=nl BK574 hg;have NB575_574:=nr BK574 hg;replace BK574:=kb BK574 hb;clear hb hbox hg;have hnb78:=NB574_536.out;have hnc78:=NB536_574.out;have hnb79:=NB574_537.out;have hnc79:=NB537_574.out;have hnb80:=NB574_555.out;have hnc80:=NB555_574.out;have hnb81:=NB574_556.out;have hnc81:=NB556_574.out;have hnb82:=NB574_575.out;have hnc82:=NB575_574.out;have hcz83_0 : w77.cell? ⟨gb574,0,none⟩ = some (.bool false):=(blk_cell BK574.out 0).trans rfl;have hcz83_1 : w77.cell? ⟨gb574,1,none⟩ = some (.slice none 0 0):=(blk_cell BK574.out 1).trans rfl;have hfz83_0:=blk_frozen BK574.out 0;have hfz83_1:=blk_frozen BK574.out 1;obtain⟨Ao84,co84,eo84⟩:=Kd.V_slice HO568.out;subst eo84;have hnb85:=NB575_536.out;have hnc85:=NB536_575.out;have hnb86:=NB575_537.out;have hnc86:=NB537_575.out;have hnb87:=NB575_555.out;have hnc87:=NB555_575.out;have hnb88:=NB575_556.out;have hnc88:=NB556_575.out;have hcz89_0 : w77.cell? ⟨gb575,0,none⟩ = some (.bool false):=(blk_cell BK575.out 0).trans rfl;have hcz89_1 : w77.cell? ⟨gb575,1,none⟩ = some (.slice none 0 0):=(blk_cell BK575.out 1).trans rfl;have hfz89_0:=blk_frozen BK575.out 0;have hfz89_1:=blk_frozen BK575.out 1;obtain⟨Ao90,co90,eo90⟩:=Kd.V_slice HO572.out;subst eo90) |((with_reducible refine gate_callee (f:=7) rfl ?_);refine goesL_ (some 36) rfl rfl Tryz.func7 (by kernel_rfl) rfl #[.string (⟨#[45,48]⟩ : ByteArray)] rfl zl ?_;(with_reducible refine(num_Parse.calls k (⟨#[45,48]⟩ : ByteArray) t576 t577 false _ A10.out).mono ?_);rintro e w91 ⟨v578,rfl,ho0,hb⟩;refine⟨_,rfl,?_⟩;replace HO530:=am (Kd.V_below (by refine zV ?_;exact(Kd.V_mono (Kd.V_mono (Kd.V_far (p:=⟨gb575,1,none⟩) (Kd.V_far (p:=⟨gb575,0,none⟩) (Kd.V_far (p:=⟨gb574,1,none⟩) (Kd.V_far (p:=⟨gb574,0,none⟩) (Kd.V_mono (Kd.V_mono HO530.out (fun k_ hk=>(⟨hk,hk.1.2⟩ : _∧k_≠gb574))) (fun k_ hk=>(⟨hk,hk.1.2⟩ : _∧k_≠gb575))) (fun _ hk=>hk.1.2) (.bool t565)) (fun _ hk=>hk.1.2) (.slice Ao84 t566.length co84)) (fun _ hk=>hk.2) (.bool t569)) (fun _ hk=>hk.2) (.slice Ao90 t570.length co90)) (fun _ h_=>h_.1)) (fun _ h_=>h_.1))) hb);replace HO534:=am (Kd.V_below (by refine zV ?_;exact(Kd.V_mono (Kd.V_mono (Kd.V_far (p:=⟨gb575,1,none⟩) (Kd.V_far (p:=⟨gb575,0,none⟩) (Kd.V_far (p:=⟨gb574,1,none⟩) (Kd.V_far (p:=⟨gb574,0,none⟩) (Kd.V_mono (Kd.V_mono HO534.out (fun k_ hk=>(⟨hk,hk.1.2⟩ : _∧k_≠gb574))) (fun k_ hk=>(⟨hk,hk.1.2⟩ : _∧k_≠gb575))) (fun _ hk=>hk.1.2) (.bool t565)) (fun _ hk=>hk.1.2) (.slice Ao84 t566.length co84)) (fun _ hk=>hk.2) (.bool t569)) (fun _ hk=>hk.2) (.slice Ao90 t570.length co90)) (fun _ h_=>h_.1)) (fun _ h_=>h_.1))) hb);replace HO549:=am (Kd.V_below (by refine zV ?_;exact(Kd.V_mono (Kd.V_mono (Kd.V_far (p:=⟨gb575,1,none⟩) (Kd.V_far (p:=⟨gb575,0,none⟩) (Kd.V_far (p:=⟨gb574,1,none⟩) (Kd.V_far (p:=⟨gb574,0,none⟩) (Kd.V_mono (Kd.V_mono HO549.out (fun k_ hk=>(⟨hk,hk.1.2⟩ : _∧k_≠gb574))) (fun k_ hk=>(⟨hk,hk.1.2⟩ : _∧k_≠gb575))) (fun _ hk=>hk.1.2) (.bool t565)) (fun _ hk=>hk.1.2) (.slice Ao84 t566.length co84)) (fun _ hk=>hk.2) (.bool t569)) (fun _ hk=>hk.2) (.slice Ao90 t570.length co90)) (fun _ h_=>h_.1)) (fun _ h_=>h_.1))) hb);replace HO553:=am (Kd.V_below (by refine zV ?_;exact(Kd.V_mono (Kd.V_mono (Kd.V_far (p:=⟨gb575,1,none⟩) (Kd.V_far (p:=⟨gb575,0,none⟩) (Kd.V_far (p:=⟨gb574,1,none⟩) (Kd.V_far (p:=⟨gb574,0,none⟩) (Kd.V_mono (Kd.V_mono HO553.out (fun k_ hk=>(⟨hk,hk.1.2⟩ : _∧k_≠gb574))) (fun k_ hk=>(⟨hk,hk.1.2⟩ : _∧k_≠gb575))) (fun _ hk=>hk.1.2) (.bool t565)) (fun _ hk=>hk.1.2) (.slice Ao84 t566.length co84)) (fun _ hk=>hk.2) (.bool t569)) (fun _ hk=>hk.2) (.slice Ao90 t570.length co90)) (fun _ h_=>h_.1)) (fun _ h_=>h_.1))) hb);replace HO568:=am (Kd.V_below (by refine zV ?_;exact(Kd.V_mono (Kd.V_mono (Kd.V_far (p:=⟨gb575,1,none⟩) (Kd.V_far (p:=⟨gb575,0,none⟩) (Kd.V_far (p:=⟨gb574,1,none⟩) (Kd.V_far (p:=⟨gb574,0,none⟩) (Kd.V_mono (Kd.V_mono HO568.out (fun k_ hk=>(⟨hk,hk.1.2⟩ : _∧k_≠gb574))) (fun k_ hk=>(⟨hk,hk.1.2⟩ : _∧k_≠gb575))) (fun _ hk=>hk.1.2) (.bool t565)) (fun _ hk=>hk.1.2) (.slice Ao84 t566.length co84)) (fun _ hk=>hk.2) (.bool t569)) (fun _ hk=>hk.2) (.slice Ao90 t570.length co90)) (fun _ h_=>h_.1)) (fun _ h_=>h_.1))) hb);replace HO572:=am (Kd.V_below (by refine zV ?_;exact(Kd.V_mono (Kd.V_mono (Kd.V_far (p:=⟨gb575,1,none⟩) (Kd.V_far (p:=⟨gb575,0,none⟩) (Kd.V_far (p:=⟨gb574,1,none⟩) (Kd.V_far (p:=⟨gb574,0,none⟩) (Kd.V_mono (Kd.V_mono HO572.out (fun k_ hk=>(⟨hk,hk.1.2⟩ : _∧k_≠gb574))) (fun k_ hk=>(⟨hk,hk.1.2⟩ : _∧k_≠gb575))) (fun _ hk=>hk.1.2) (.bool t565)) (fun _ hk=>hk.1.2) (.slice Ao84 t566.length co84)) (fun _ hk=>hk.2) (.bool t569)) (fun _ hk=>hk.2) (.slice Ao90 t570.length co90)) (fun _ h_=>h_.1)) (fun _ h_=>h_.1))) hb);have HO579:=am (Kd.V_lower (Kd.V_mono (ok':=fun k_=>k_≠gb536∧k_≠gb537∧k_≠gb555∧k_≠gb556∧k_≠gb574∧k_≠gb575) ho0 (fun k_ hk_=>⟨(Kd.freshB (g:=gb536) (o:=.cells #[.bool t527,.slice Ao52 t528.length co52] 25 (0,0)) (by refine zk ?_;refine blk_far ?_ NB536_575.out _;refine zk ?_;refine blk_far ?_ NB536_575.out _;refine zk ?_;refine blk_far ?_ NB536_574.out _;refine zk ?_;refine blk_far ?_ NB536_574.out _;refine zk ?_;exact BK536.out) k_ hk_),(Kd.freshB (g:=gb537) (o:=.cells #[.bool t531,.slice Ao54 t532.length co54] 25 (0,0)) (by refine zk ?_;refine blk_far ?_ NB537_575.out _;refine zk ?_;refine blk_far ?_ NB537_575.out _;refine zk ?_;refine blk_far ?_ NB537_574.out _;refine zk ?_;refine blk_far ?_ NB537_574.out _;refine zk ?_;exact BK537.out) k_ hk_),(Kd.freshB (g:=gb555) (o:=.cells #[.bool t546,.slice Ao66 t547.length co66] 25 (0,0)) (by refine zk ?_;refine blk_far ?_ NB555_575.out _;refine zk ?_;refine blk_far ?_ NB555_575.out _;refine zk ?_;refine blk_far ?_ NB555_574.out _;refine zk ?_;refine blk_far ?_ NB555_574.out _;refine zk ?_;exact BK555.out) k_ hk_),(Kd.freshB (g:=gb556) (o:=.cells #[.bool t550,.slice Ao70 t551.length co70] 25 (0,0)) (by refine zk ?_;refine blk_far ?_ NB556_575.out _;refine zk ?_;refine blk_far ?_ NB556_575.out _;refine zk ?_;refine blk_far ?_ NB556_574.out _;refine zk ?_;refine blk_far ?_ NB556_574.out _;refine zk ?_;exact BK556.out) k_ hk_),(Kd.freshB (g:=gb574) (o:=.cells #[.bool t565,.slice Ao84 t566.length co84] 25 (0,0)) (by refine zk ?_;refine blk_far ?_ NB574_575.out _;refine zk ?_;refine blk_far ?_ NB574_575.out _;refine zk ?_;refine blk_put (cs:=#[.bool t565,.slice none 0 0]) ?_ 1 _ rfl;refine zk ?_;refine blk_put (cs:=#[.bool false,.slice none 0 0]) ?_ 0 _ rfl;refine zk ?_;exact BK574.out) k_ hk_),(Kd.freshB (g:=gb575) (o:=.cells #[.bool t569,.slice Ao90 t570.length co90] 25 (0,0)) (by refine zk ?_;refine blk_put (cs:=#[.bool t569,.slice none 0 0]) ?_ 1 _ rfl;refine zk ?_;refine blk_put (cs:=#[.bool false,.slice none 0 0]) ?_ 0 _ rfl;refine zk ?_;refine blk_far ?_ NB575_574.out _;refine zk ?_;refine blk_far ?_ NB575_574.out _;refine zk ?_;exact BK575.out) k_ hk_)⟩)) (below_size zb));replace BK536:=am (blk_below (g:=gb536) (o:=.cells #[.bool t527,.slice Ao52 t528.length co52] 25 (0,0)) (by refine zk ?_;refine blk_far ?_ NB536_575.out _;refine zk ?_;refine blk_far ?_ NB536_575.out _;refine zk ?_;refine blk_far ?_ NB536_574.out _;refine zk ?_;refine blk_far ?_ NB536_574.out _;refine zk ?_;exact BK536.out) hb);replace BK537:=am (blk_below (g:=gb537) (o:=.cells #[.bool t531,.slice Ao54 t532.length co54] 25 (0,0)) (by refine zk ?_;refine blk_far ?_ NB537_575.out _;refine zk ?_;refine blk_far ?_ NB537_575.out _;refine zk ?_;refine blk_far ?_ NB537_574.out _;refine zk ?_;refine blk_far ?_ NB537_574.out _;refine zk ?_;exact BK537.out) hb);replace BK555:=am (blk_below (g:=gb555) (o:=.cells #[.bool t546,.slice Ao66 t547.length co66] 25 (0,0)) (by refine zk ?_;refine blk_far ?_ NB555_575.out _;refine zk ?_;refine blk_far ?_ NB555_575.out _;refine zk ?_;refine blk_far ?_ NB555_574.out _;refine zk ?_;refine blk_far ?_ NB555_574.out _;refine zk ?_;exact BK555.out) hb);replace BK556:=am (blk_below (g:=gb556) (o:=.cells #[.bool t550,.slice Ao70 t551.length co70] 25 (0,0)) (by refine zk ?_;refine blk_far ?_ NB556_575.out _;refine zk ?_;refine blk_far ?_ NB556_575.out _;refine zk ?_;refine blk_far ?_ NB556_574.out _;refine zk ?_;refine blk_far ?_ NB556_574.out _;refine zk ?_;exact BK556.out) hb);replace BK574:=am (blk_below (g:=gb574) (o:=.cells #[.bool t565,.slice Ao84 t566.length co84] 25 (0,0)) (by refine zk ?_;refine blk_far ?_ NB574_575.out _;refine zk ?_;refine blk_far ?_ NB574_575.out _;refine zk ?_;refine blk_put (cs:=#[.bool t565,.slice none 0 0]) ?_ 1 _ rfl;refine zk ?_;refine blk_put (cs:=#[.bool false,.slice none 0 0]) ?_ 0 _ rfl;refine zk ?_;exact BK574.out) hb);replace BK575:=am (blk_below (g:=gb575) (o:=.cells #[.bool t569,.slice Ao90 t570.length co90] 25 (0,0)) (by refine zk ?_;refine blk_put (cs:=#[.bool t569,.slice none 0 0]) ?_ 1 _ rfl;refine zk ?_;refine blk_put (cs:=#[.bool false,.slice none 0 0]) ?_ 0 _ rfl;refine zk ?_;refine blk_far ?_ NB575_574.out _;refine zk ?_;refine blk_far ?_ NB575_574.out _;refine zk ?_;exact BK575.out) hb);replace HB:=am (below_step zb hb);(try clear hb);(try clear ho0)) |((with_reducible refine gate_dst (N:=10) rfl ?_);(try (refine gate_guard (by rfl) ?_;dsimp only));refine box_event ?hg (N:=10) ?hd (cs:=#[.bool false,.slice none 0 0]) (t:=25) ?hr ?_;(case hd=>rfl);(case hg=>rfl);(case hr=>exact zh);intro gb581 hg w92 hbox hb;replace HO530:=vB gb581 HO530 hg hb;replace HO534:=vB gb581 HO534 hg hb;replace HO549:=vB gb581 HO549 hg hb;replace HO553:=vB gb581 HO553 hg hb;replace HO568:=vB gb581 HO568 hg hb;replace HO572:=vB gb581 HO572 hg hb;replace HO579:=vB gb581 HO579 hg hb;have BK581:=am (hbox);have GW581:=gw w hg;have GE581:=gw w hg;replace HB:=am (below_step zb hb);have NB536_581:=nl BK536 hg;have NB581_536:=nr BK536 hg;replace BK536:=kb BK536 hb;have NB537_581:=nl BK537 hg;have NB581_537:=nr BK537 hg;replace BK537:=kb BK537 hb;have NB555_581:=nl BK555 hg;have NB581_555:=nr BK555 hg;replace BK555:=kb BK555 hb;have NB556_581:=nl BK556 hg;have NB581_556:=nr BK556 hg;replace BK556:=kb BK556 hb;have NB574_581:=nl BK574 hg;have NB581_574:=nr BK574 hg;replace BK574:=kb BK574 hb;have NB575_581:=nl BK575 hg;have NB581_575:=nr BK575 hg;replace BK575:=kb BK575 hb;clear hb hbox hg;have hnb93:=NB581_536.out;have hnc93:=NB536_581.out;have hnb94:=NB581_537.out;have hnc94:=NB537_581.out;have hnb95:=NB581_555.out;have hnc95:=NB555_581.out;have hnb96:=NB581_556.out;have hnc96:=NB556_581.out;have hnb97:=NB581_574.out;have hnc97:=NB574_581.out;have hnb98:=NB581_575.out;have hnc98:=NB575_581.out;have hcz99_0 : w92.cell? ⟨gb581,0,none⟩ = some (.bool false):=(blk_cell BK581.out 0).trans rfl;have hcz99_1 : w92.cell? ⟨gb581,1,none⟩ = some (.slice none 0 0):=(blk_cell BK581.out 1).trans rfl;have hfz99_0:=blk_frozen BK581.out 0;have hfz99_1:=blk_frozen BK581.out 1;obtain⟨Ao100,co100,eo100⟩:=Kd.V_slice HO579.out;subst eo100) |((with_reducible refine gate_callee (f:=7) rfl ?_);refine goesL_ (some 40) rfl rfl Tryz.func7 (by kernel_rfl) rfl #[.string (⟨#[43,49]⟩ : ByteArray)] rfl zl ?_;(with_reducible refine(num_Parse.calls k (⟨#[43,49]⟩ : ByteArray) t582 t583 t586 _ A11.out).mono ?_);rintro e w101 ⟨v584,rfl,ho0,hb⟩;refine⟨_,rfl,?_⟩;replace HO530:=am (Kd.V_below (by refine zV ?_;exact(Kd.V_mono (Kd.V_far (p:=⟨gb581,1,none⟩) (Kd.V_far (p:=⟨gb581,0,none⟩) (Kd.V_mono HO530.out (fun k_ hk=>(⟨hk,hk.2⟩ : _∧k_≠gb581))) (fun _ hk=>hk.2) (.bool t576)) (fun _ hk=>hk.2) (.slice Ao100 t577.length co100)) (fun _ h_=>h_.1))) hb);replace HO534:=am (Kd.V_below (by refine zV ?_;exact(Kd.V_mono (Kd.V_far (p:=⟨gb581,1,none⟩) (Kd.V_far (p:=⟨gb581,0,none⟩) (Kd.V_mono HO534.out (fun k_ hk=>(⟨hk,hk.2⟩ : _∧k_≠gb581))) (fun _ hk=>hk.2) (.bool t576)) (fun _ hk=>hk.2) (.slice Ao100 t577.length co100)) (fun _ h_=>h_.1))) hb);replace HO549:=am (Kd.V_below (by refine zV ?_;exact(Kd.V_mono (Kd.V_far (p:=⟨gb581,1,none⟩) (Kd.V_far (p:=⟨gb581,0,none⟩) (Kd.V_mono HO549.out (fun k_ hk=>(⟨hk,hk.2⟩ : _∧k_≠gb581))) (fun _ hk=>hk.2) (.bool t576)) (fun _ hk=>hk.2) (.slice Ao100 t577.length co100)) (fun _ h_=>h_.1))) hb);replace HO553:=am (Kd.V_below (by refine zV ?_;exact(Kd.V_mono (Kd.V_far (p:=⟨gb581,1,none⟩) (Kd.V_far (p:=⟨gb581,0,none⟩) (Kd.V_mono HO553.out (fun k_ hk=>(⟨hk,hk.2⟩ : _∧k_≠gb581))) (fun _ hk=>hk.2) (.bool t576)) (fun _ hk=>hk.2) (.slice Ao100 t577.length co100)) (fun _ h_=>h_.1))) hb);replace HO568:=am (Kd.V_below (by refine zV ?_;exact(Kd.V_mono (Kd.V_far (p:=⟨gb581,1,none⟩) (Kd.V_far (p:=⟨gb581,0,none⟩) (Kd.V_mono HO568.out (fun k_ hk=>(⟨hk,hk.2⟩ : _∧k_≠gb581))) (fun _ hk=>hk.2) (.bool t576)) (fun _ hk=>hk.2) (.slice Ao100 t577.length co100)) (fun _ h_=>h_.1))) hb);replace HO572:=am (Kd.V_below (by refine zV ?_;exact(Kd.V_mono (Kd.V_far (p:=⟨gb581,1,none⟩) (Kd.V_far (p:=⟨gb581,0,none⟩) (Kd.V_mono HO572.out (fun k_ hk=>(⟨hk,hk.2⟩ : _∧k_≠gb581))) (fun _ hk=>hk.2) (.bool t576)) (fun _ hk=>hk.2) (.slice Ao100 t577.length co100)) (fun _ h_=>h_.1))) hb);replace HO579:=am (Kd.V_below (by refine zV ?_;exact(Kd.V_mono (Kd.V_far (p:=⟨gb581,1,none⟩) (Kd.V_far (p:=⟨gb581,0,none⟩) (Kd.V_mono HO579.out (fun k_ hk=>(⟨hk,hk.2⟩ : _∧k_≠gb581))) (fun _ hk=>hk.2) (.bool t576)) (fun _ hk=>hk.2) (.slice Ao100 t577.length co100)) (fun _ h_=>h_.1))) hb);have HO585:=am (Kd.V_lower (Kd.V_mono (ok':=fun k_=>k_≠gb536∧k_≠gb537∧k_≠gb555∧k_≠gb556∧k_≠gb574∧k_≠gb575∧k_≠gb581) ho0 (fun k_ hk_=>⟨(Kd.freshB (g:=gb536) (o:=.cells #[.bool t527,.slice Ao52 t528.length co52] 25 (0,0)) (by refine zk ?_;refine blk_far ?_ NB536_581.out _;refine zk ?_;refine blk_far ?_ NB536_581.out _;refine zk ?_;exact BK536.out) k_ hk_),(Kd.freshB (g:=gb537) (o:=.cells #[.bool t531,.slice Ao54 t532.length co54] 25 (0,0)) (by refine zk ?_;refine blk_far ?_ NB537_581.out _;refine zk ?_;refine blk_far ?_ NB537_581.out _;refine zk ?_;exact BK537.out) k_ hk_),(Kd.freshB (g:=gb555) (o:=.cells #[.bool t546,.slice Ao66 t547.length co66] 25 (0,0)) (by refine zk ?_;refine blk_far ?_ NB555_581.out _;refine zk ?_;refine blk_far ?_ NB555_581.out _;refine zk ?_;exact BK555.out) k_ hk_),(Kd.freshB (g:=gb556) (o:=.cells #[.bool t550,.slice Ao70 t551.length co70] 25 (0,0)) (by refine zk ?_;refine blk_far ?_ NB556_581.out _;refine zk ?_;refine blk_far ?_ NB556_581.out _;refine zk ?_;exact BK556.out) k_ hk_),(Kd.freshB (g:=gb574) (o:=.cells #[.bool t565,.slice Ao84 t566.length co84] 25 (0,0)) (by refine zk ?_;refine blk_far ?_ NB574_581.out _;refine zk ?_;refine blk_far ?_ NB574_581.out _;refine zk ?_;exact BK574.out) k_ hk_),(Kd.freshB (g:=gb575) (o:=.cells #[.bool t569,.slice Ao90 t570.length co90] 25 (0,0)) (by refine zk ?_;refine blk_far ?_ NB575_581.out _;refine zk ?_;refine blk_far ?_ NB575_581.out _;refine zk ?_;exact BK575.out) k_ hk_),(Kd.freshB (g:=gb581) (o:=.cells #[.bool t576,.slice Ao100 t577.length co100] 25 (0,0)) (by refine zk ?_;refine blk_put (cs:=#[.bool t576,.slice none 0 0]) ?_ 1 _ rfl;refine zk ?_;refine blk_put (cs:=#[.bool false,.slice none 0 0]) ?_ 0 _ rfl;refine zk ?_;exact BK581.out) k_ hk_)⟩)) (below_size zb));replace BK536:=am (blk_below (g:=gb536) (o:=.cells #[.bool t527,.slice Ao52 t528.length co52] 25 (0,0)) (by refine zk ?_;refine blk_far ?_ NB536_581.out _;refine zk ?_;refine blk_far ?_ NB536_581.out _;refine zk ?_;exact BK536.out) hb);replace BK537:=am (blk_below (g:=gb537) (o:=.cells #[.bool t531,.slice Ao54 t532.length co54] 25 (0,0)) (by refine zk ?_;refine blk_far ?_ NB537_581.out _;refine zk ?_;refine blk_far ?_ NB537_581.out _;refine zk ?_;exact BK537.out) hb);replace BK555:=am (blk_below (g:=gb555) (o:=.cells #[.bool t546,.slice Ao66 t547.length co66] 25 (0,0)) (by refine zk ?_;refine blk_far ?_ NB555_581.out _;refine zk ?_;refine blk_far ?_ NB555_581.out _;refine zk ?_;exact BK555.out) hb);replace BK556:=am (blk_below (g:=gb556) (o:=.cells #[.bool t550,.slice Ao70 t551.length co70] 25 (0,0)) (by refine zk ?_;refine blk_far ?_ NB556_581.out _;refine zk ?_;refine blk_far ?_ NB556_581.out _;refine zk ?_;exact BK556.out) hb);replace BK574:=am (blk_below (g:=gb574) (o:=.cells #[.bool t565,.slice Ao84 t566.length co84] 25 (0,0)) (by refine zk ?_;refine blk_far ?_ NB574_581.out _;refine zk ?_;refine blk_far ?_ NB574_581.out _;refine zk ?_;exact BK574.out) hb);replace BK575:=am (blk_below (g:=gb575) (o:=.cells #[.bool t569,.slice Ao90 t570.length co90] 25 (0,0)) (by refine zk ?_;refine blk_far ?_ NB575_581.out _;refine zk ?_;refine blk_far ?_ NB575_581.out _;refine zk ?_;exact BK575.out) hb);replace BK581:=am (blk_below (g:=gb581) (o:=.cells #[.bool t576,.slice Ao100 t577.length co100] 25 (0,0)) (by refine zk ?_;refine blk_put (cs:=#[.bool t576,.slice none 0 0]) ?_ 1 _ rfl;refine zk ?_;refine blk_put (cs:=#[.bool false,.slice none 0 0]) ?_ 0 _ rfl;refine zk ?_;exact BK581.out) hb);replace HB:=am (below_step zb hb);(try clear hb);(try clear ho0);clear HO579) |((with_reducible refine gate_dst (N:=12) rfl ?_);(try (refine gate_guard (by rfl) ?_;dsimp only));refine box_event ?hg (N:=12) ?hd (cs:=#[.bool false,.slice none 0 0]) (t:=25) ?hr ?_;(case hd=>rfl);(case hg=>rfl);(case hr=>exact zh);intro gb587 hg w102 hbox hb;replace HO530:=vB gb587 HO530 hg hb;replace HO534:=vB gb587 HO534 hg hb;replace HO549:=vB gb587 HO549 hg hb;replace HO553:=vB gb587 HO553 hg hb;replace HO568:=vB gb587 HO568 hg hb;replace HO572:=vB gb587 HO572 hg hb;replace HO585:=vB gb587 HO585 hg hb;have BK587:=am (hbox);have GW587:=gw w hg;have GE587:=gw w hg;replace HB:=am (below_step zb hb);have NB536_587:=nl BK536 hg;have NB587_536:=nr BK536 hg;replace BK536:=kb BK536 hb;have NB537_587:=nl BK537 hg;have NB587_537:=nr BK537 hg;replace BK537:=kb BK537 hb;have NB555_587:=nl BK555 hg;have NB587_555:=nr BK555 hg;replace BK555:=kb BK555 hb;have NB556_587:=nl BK556 hg;have NB587_556:=nr BK556 hg;replace BK556:=kb BK556 hb;have NB574_587:=nl BK574 hg;have NB587_574:=nr BK574 hg;replace BK574:=kb BK574 hb;have NB575_587:=nl BK575 hg;have NB587_575:=nr BK575 hg;replace BK575:=kb BK575 hb;have NB581_587:=nl BK581 hg;have NB587_581:=nr BK581 hg;replace BK581:=kb BK581 hb;clear hb hbox hg;have hnb103:=NB587_536.out;have hnc103:=NB536_587.out;have hnb104:=NB587_537.out;have hnc104:=NB537_587.out;have hnb105:=NB587_555.out;have hnc105:=NB555_587.out;have hnb106:=NB587_556.out;have hnc106:=NB556_587.out;have hnb107:=NB587_574.out;have hnc107:=NB574_587.out;have hnb108:=NB587_575.out;have hnc108:=NB575_587.out;have hnb109:=NB587_581.out;have hnc109:=NB581_587.out;have hcz110_0 : w102.cell? ⟨gb587,0,none⟩ = some (.bool false):=(blk_cell BK587.out 0).trans rfl;have hcz110_1 : w102.cell? ⟨gb587,1,none⟩ = some (.slice none 0 0):=(blk_cell BK587.out 1).trans rfl;have hfz110_0:=blk_frozen BK587.out 0;have hfz110_1:=blk_frozen BK587.out 1;obtain⟨Ao111,co111,eo111⟩:=Kd.V_slice HO585.out;subst eo111))
             have n0_ : Aside0 (Kd.V (Kd.int .u32) 60 ((w102.setCell ⟨gb587,0,none⟩ (.bool t582)).setCell ⟨gb587,1,none⟩ (.slice Ao111 t583.length co111)) w.heap.size (fun k_=>k_≠gb536∧k_≠gb537∧k_≠gb555∧k_≠gb556∧k_≠gb574∧k_≠gb575∧k_≠gb581∧k_≠gb587) (.slice Ao52 t528.length co52) t528):=⟨by refine zV ?_;exact Kd.V_mono (Kd.V_far (p:=⟨gb587,1,none⟩) (Kd.V_far (p:=⟨gb587,0,none⟩) (Kd.V_mono HO530.out (fun k_ hk=>(⟨hk,hk.2⟩ : _∧k_≠gb587))) (fun _ hk=>hk.2) (.bool t582)) (fun _ hk=>hk.2) (.slice Ao111 t583.length co111)) (fun _ hk=>⟨hk.1.1.1.1.1.1.1.1.2,⟨hk.1.1.1.1.1.1.1.2,⟨hk.1.1.1.1.1.1.2,⟨hk.1.1.1.1.1.2,⟨hk.1.1.1.1.2,⟨hk.1.1.1.2,⟨hk.1.1.2,hk.1.2⟩⟩⟩⟩⟩⟩⟩)⟩
             have n1_ : Aside0 (Kd.V (Kd.int .u32) 60 ((w102.setCell ⟨gb587,0,none⟩ (.bool t582)).setCell ⟨gb587,1,none⟩ (.slice Ao111 t583.length co111)) w.heap.size (fun k_=>k_≠gb536∧k_≠gb537∧k_≠gb555∧k_≠gb556∧k_≠gb574∧k_≠gb575∧k_≠gb581∧k_≠gb587) (.slice Ao54 t532.length co54) t532):=⟨by refine zV ?_;exact Kd.V_mono (Kd.V_far (p:=⟨gb587,1,none⟩) (Kd.V_far (p:=⟨gb587,0,none⟩) (Kd.V_mono HO534.out (fun k_ hk=>(⟨hk,hk.2⟩ : _∧k_≠gb587))) (fun _ hk=>hk.2) (.bool t582)) (fun _ hk=>hk.2) (.slice Ao111 t583.length co111)) (fun _ hk=>⟨hk.1.1.1.1.1.1.1.1.2,⟨hk.1.1.1.1.1.1.1.2,⟨hk.1.1.1.1.1.1.2,⟨hk.1.1.1.1.1.2,⟨hk.1.1.1.1.2,⟨hk.1.1.1.2,⟨hk.1.1.2,hk.1.2⟩⟩⟩⟩⟩⟩⟩)⟩
             have n2_ : Aside0 (Kd.V (Kd.int .u32) 60 ((w102.setCell ⟨gb587,0,none⟩ (.bool t582)).setCell ⟨gb587,1,none⟩ (.slice Ao111 t583.length co111)) w.heap.size (fun k_=>k_≠gb536∧k_≠gb537∧k_≠gb555∧k_≠gb556∧k_≠gb574∧k_≠gb575∧k_≠gb581∧k_≠gb587) (.slice Ao66 t547.length co66) t547):=⟨by refine zV ?_;exact Kd.V_mono (Kd.V_far (p:=⟨gb587,1,none⟩) (Kd.V_far (p:=⟨gb587,0,none⟩) (Kd.V_mono HO549.out (fun k_ hk=>(⟨hk,hk.2⟩ : _∧k_≠gb587))) (fun _ hk=>hk.2) (.bool t582)) (fun _ hk=>hk.2) (.slice Ao111 t583.length co111)) (fun _ hk=>⟨hk.1.1.1.1.1.1.1.1,⟨hk.1.1.1.1.1.1.1.2,⟨hk.1.1.1.1.1.1.2,⟨hk.1.1.1.1.1.2,⟨hk.1.1.1.1.2,⟨hk.1.1.1.2,⟨hk.1.1.2,hk.1.2⟩⟩⟩⟩⟩⟩⟩)⟩
             have n3_ : Aside0 (Kd.V (Kd.int .u32) 60 ((w102.setCell ⟨gb587,0,none⟩ (.bool t582)).setCell ⟨gb587,1,none⟩ (.slice Ao111 t583.length co111)) w.heap.size (fun k_=>k_≠gb536∧k_≠gb537∧k_≠gb555∧k_≠gb556∧k_≠gb574∧k_≠gb575∧k_≠gb581∧k_≠gb587) (.slice Ao70 t551.length co70) t551):=⟨by refine zV ?_;exact Kd.V_mono (Kd.V_far (p:=⟨gb587,1,none⟩) (Kd.V_far (p:=⟨gb587,0,none⟩) (Kd.V_mono HO553.out (fun k_ hk=>(⟨hk,hk.2⟩ : _∧k_≠gb587))) (fun _ hk=>hk.2) (.bool t582)) (fun _ hk=>hk.2) (.slice Ao111 t583.length co111)) (fun _ hk=>⟨hk.1.1.1.1.1.1.1.1,⟨hk.1.1.1.1.1.1.1.2,⟨hk.1.1.1.1.1.1.2,⟨hk.1.1.1.1.1.2,⟨hk.1.1.1.1.2,⟨hk.1.1.1.2,⟨hk.1.1.2,hk.1.2⟩⟩⟩⟩⟩⟩⟩)⟩
             have n4_ : Aside0 (Kd.V (Kd.int .u32) 60 ((w102.setCell ⟨gb587,0,none⟩ (.bool t582)).setCell ⟨gb587,1,none⟩ (.slice Ao111 t583.length co111)) w.heap.size (fun k_=>k_≠gb536∧k_≠gb537∧k_≠gb555∧k_≠gb556∧k_≠gb574∧k_≠gb575∧k_≠gb581∧k_≠gb587) (.slice Ao84 t566.length co84) t566):=⟨by refine zV ?_;exact Kd.V_mono (Kd.V_far (p:=⟨gb587,1,none⟩) (Kd.V_far (p:=⟨gb587,0,none⟩) (Kd.V_mono HO568.out (fun k_ hk=>(⟨hk,hk.2⟩ : _∧k_≠gb587))) (fun _ hk=>hk.2) (.bool t582)) (fun _ hk=>hk.2) (.slice Ao111 t583.length co111)) (fun _ hk=>⟨hk.1.1.1.1.1.1,⟨hk.1.1.1.1.1.2.1,⟨hk.1.1.1.1.1.2.2.1,⟨hk.1.1.1.1.1.2.2.2,⟨hk.1.1.1.1.2,⟨hk.1.1.1.2,⟨hk.1.1.2,hk.1.2⟩⟩⟩⟩⟩⟩⟩)⟩
             have n5_ : Aside0 (Kd.V (Kd.int .u32) 60 ((w102.setCell ⟨gb587,0,none⟩ (.bool t582)).setCell ⟨gb587,1,none⟩ (.slice Ao111 t583.length co111)) w.heap.size (fun k_=>k_≠gb536∧k_≠gb537∧k_≠gb555∧k_≠gb556∧k_≠gb574∧k_≠gb575∧k_≠gb581∧k_≠gb587) (.slice Ao90 t570.length co90) t570):=⟨by refine zV ?_;exact Kd.V_mono (Kd.V_far (p:=⟨gb587,1,none⟩) (Kd.V_far (p:=⟨gb587,0,none⟩) (Kd.V_mono HO572.out (fun k_ hk=>(⟨hk,hk.2⟩ : _∧k_≠gb587))) (fun _ hk=>hk.2) (.bool t582)) (fun _ hk=>hk.2) (.slice Ao111 t583.length co111)) (fun _ hk=>⟨hk.1.1.1.1.1.1,⟨hk.1.1.1.1.1.2.1,⟨hk.1.1.1.1.1.2.2.1,⟨hk.1.1.1.1.1.2.2.2,⟨hk.1.1.1.1.2,⟨hk.1.1.1.2,⟨hk.1.1.2,hk.1.2⟩⟩⟩⟩⟩⟩⟩)⟩
             have n6_ : Aside0 (Kd.V (Kd.int .u32) 60 ((w102.setCell ⟨gb587,0,none⟩ (.bool t582)).setCell ⟨gb587,1,none⟩ (.slice Ao111 t583.length co111)) w.heap.size (fun k_=>k_≠gb536∧k_≠gb537∧k_≠gb555∧k_≠gb556∧k_≠gb574∧k_≠gb575∧k_≠gb581∧k_≠gb587) (.slice Ao111 t583.length co111) t583):=⟨by refine zV ?_;exact Kd.V_mono (Kd.V_far (p:=⟨gb587,1,none⟩) (Kd.V_far (p:=⟨gb587,0,none⟩) (Kd.V_mono HO585.out (fun k_ hk=>(⟨hk,hk.2⟩ : _∧k_≠gb587))) (fun _ hk=>hk.2) (.bool t582)) (fun _ hk=>hk.2) (.slice Ao111 t583.length co111)) (fun _ hk=>⟨hk.1.1.1,⟨hk.1.1.2.1,⟨hk.1.1.2.2.1,⟨hk.1.1.2.2.2.1,⟨hk.1.1.2.2.2.2.1,⟨hk.1.1.2.2.2.2.2.1,⟨hk.1.1.2.2.2.2.2.2,hk.1.2⟩⟩⟩⟩⟩⟩⟩)⟩
             have n7_ : Aside0 (((w102.setCell ⟨gb587,0,none⟩ (.bool t582)).setCell ⟨gb587,1,none⟩ (.slice Ao111 t583.length co111)).heap[gb536]? = some (.cells #[.bool t527,.slice Ao52 t528.length co52] 25 (0,0))):=⟨by refine zk ?_;refine blk_far ?_ NB536_587.out _;refine zk ?_;refine blk_far ?_ NB536_587.out _;refine zk ?_;exact BK536.out⟩
             have n8_ : Aside0 (((w102.setCell ⟨gb587,0,none⟩ (.bool t582)).setCell ⟨gb587,1,none⟩ (.slice Ao111 t583.length co111)).heap[gb537]? = some (.cells #[.bool t531,.slice Ao54 t532.length co54] 25 (0,0))):=⟨by refine zk ?_;refine blk_far ?_ NB537_587.out _;refine zk ?_;refine blk_far ?_ NB537_587.out _;refine zk ?_;exact BK537.out⟩
             have n9_ : Aside0 (((w102.setCell ⟨gb587,0,none⟩ (.bool t582)).setCell ⟨gb587,1,none⟩ (.slice Ao111 t583.length co111)).heap[gb555]? = some (.cells #[.bool t546,.slice Ao66 t547.length co66] 25 (0,0))):=⟨by refine zk ?_;refine blk_far ?_ NB555_587.out _;refine zk ?_;refine blk_far ?_ NB555_587.out _;refine zk ?_;exact BK555.out⟩
             have n10_ : Aside0 (((w102.setCell ⟨gb587,0,none⟩ (.bool t582)).setCell ⟨gb587,1,none⟩ (.slice Ao111 t583.length co111)).heap[gb556]? = some (.cells #[.bool t550,.slice Ao70 t551.length co70] 25 (0,0))):=⟨by refine zk ?_;refine blk_far ?_ NB556_587.out _;refine zk ?_;refine blk_far ?_ NB556_587.out _;refine zk ?_;exact BK556.out⟩
             have n11_ : Aside0 (((w102.setCell ⟨gb587,0,none⟩ (.bool t582)).setCell ⟨gb587,1,none⟩ (.slice Ao111 t583.length co111)).heap[gb574]? = some (.cells #[.bool t565,.slice Ao84 t566.length co84] 25 (0,0))):=⟨by refine zk ?_;refine blk_far ?_ NB574_587.out _;refine zk ?_;refine blk_far ?_ NB574_587.out _;refine zk ?_;exact BK574.out⟩
             have n12_ : Aside0 (((w102.setCell ⟨gb587,0,none⟩ (.bool t582)).setCell ⟨gb587,1,none⟩ (.slice Ao111 t583.length co111)).heap[gb575]? = some (.cells #[.bool t569,.slice Ao90 t570.length co90] 25 (0,0))):=⟨by refine zk ?_;refine blk_far ?_ NB575_587.out _;refine zk ?_;refine blk_far ?_ NB575_587.out _;refine zk ?_;exact BK575.out⟩
             have n13_ : Aside0 (((w102.setCell ⟨gb587,0,none⟩ (.bool t582)).setCell ⟨gb587,1,none⟩ (.slice Ao111 t583.length co111)).heap[gb581]? = some (.cells #[.bool t576,.slice Ao100 t577.length co100] 25 (0,0))):=⟨by refine zk ?_;refine blk_far ?_ NB581_587.out _;refine zk ?_;refine blk_far ?_ NB581_587.out _;refine zk ?_;exact BK581.out⟩
             have n14_ : Aside0 (((w102.setCell ⟨gb587,0,none⟩ (.bool t582)).setCell ⟨gb587,1,none⟩ (.slice Ao111 t583.length co111)).heap[gb587]? = some (.cells #[.bool t582,.slice Ao111 t583.length co111] 25 (0,0))):=⟨by refine zk ?_;refine blk_put (cs:=#[.bool t582,.slice none 0 0]) ?_ 1 _ rfl;refine zk ?_;refine blk_put (cs:=#[.bool false,.slice none 0 0]) ?_ 0 _ rfl;refine zk ?_;exact BK587.out⟩
             have n15_ : Aside0 (Below w.heap.size w ((w102.setCell ⟨gb587,0,none⟩ (.bool t582)).setCell ⟨gb587,1,none⟩ (.slice Ao111 t583.length co111))):=⟨zb⟩
             (try clear HO530)
             (try clear HO534)
             (try clear HO549)
             (try clear HO553)
             (try clear HO568)
             (try clear HO572)
             (try clear HO585)
             (try clear BK536)
             (try clear BK537)
             (try clear BK555)
             (try clear BK556)
             (try clear BK574)
             (try clear BK575)
             (try clear BK581)
             (try clear BK587)
             (try clear HB)
             generalize ((w102.setCell ⟨gb587,0,none⟩ (.bool t582)).setCell ⟨gb587,1,none⟩ (.slice Ao111 t583.length co111)) = w112 at n0_ n1_ n2_ n3_ n4_ n5_ n6_ n7_ n8_ n9_ n10_ n11_ n12_ n13_ n14_ n15_ ⊢
             have HO530:=n0_
             have HO534:=n1_
             have HO549:=n2_
             have HO553:=n3_
             have HO568:=n4_
             have HO572:=n5_
             have HO585:=n6_
             have BK536:=n7_
             have BK537:=n8_
             have BK555:=n9_
             have BK556:=n10_
             have BK574:=n11_
             have BK575:=n12_
             have BK581:=n13_
             have BK587:=n14_
             have HB:=n15_
             clear n0_ n1_ n2_ n3_ n4_ n5_ n6_ n7_ n8_ n9_ n10_ n11_ n12_ n13_ n14_ n15_
             replace HO530:=am (Kd.V_drew HO530.out)
             replace HO534:=am (Kd.V_drew HO534.out)
             replace HO549:=am (Kd.V_drew HO549.out)
             replace HO553:=am (Kd.V_drew HO553.out)
             replace HO568:=am (Kd.V_drew HO568.out)
             replace HO572:=am (Kd.V_drew HO572.out)
             replace HO585:=am (Kd.V_drew HO585.out)
             replace BK536:=am (blk_drew BK536.out)
             replace BK537:=am (blk_drew BK537.out)
             replace BK555:=am (blk_drew BK555.out)
             replace BK556:=am (blk_drew BK556.out)
             replace BK574:=am (blk_drew BK574.out)
             replace BK575:=am (blk_drew BK575.out)
             replace BK581:=am (blk_drew BK581.out)
             replace BK587:=am (blk_drew BK587.out)
             replace HB:=am (below_drew1 HB.out)
             refine start_ (n:=63) (S:=fun w'=>w'.cell? ⟨gb536,0,none⟩ = some (.bool t527)∧w'.cell? ⟨gb536,1,none⟩ = some (.slice Ao52 t528.length co52)∧w'.cell? ⟨gb537,0,none⟩ = some (.bool t531)∧w'.cell? ⟨gb537,1,none⟩ = some (.slice Ao54 t532.length co54)∧w'.cell? ⟨gb555,0,none⟩ = some (.bool t546)∧w'.cell? ⟨gb555,1,none⟩ = some (.slice Ao66 t547.length co66)∧w'.cell? ⟨gb556,0,none⟩ = some (.bool t550)∧w'.cell? ⟨gb556,1,none⟩ = some (.slice Ao70 t551.length co70)∧w'.cell? ⟨gb574,0,none⟩ = some (.bool t565)∧w'.cell? ⟨gb574,1,none⟩ = some (.slice Ao84 t566.length co84)∧w'.cell? ⟨gb575,0,none⟩ = some (.bool t569)∧w'.cell? ⟨gb575,1,none⟩ = some (.slice Ao90 t570.length co90)) (ds:=[]) #[ff,ff,ff,ff,ff,ff,ff,ff,ff,ff,ff,ff,ff,ff,ff,ff,ff,ff,ff,ff,ff,ff,ff,ff,ff,ff,ff,ff,ff,ff,ff,ff,ff,ff,ff,ff,ff,ff,ff,ff,ff,ff,ff,ff,ff,ff,ff,ff,ff,ff,ff,ff,ff,ff,ff,ff,ff,ff,ff,ff,ff,ff,ff] (by kernel_rfl) rfl rfl ⟨(blk_cell BK536.out 0).trans rfl,(blk_cell BK536.out 1).trans rfl,(blk_cell BK537.out 0).trans rfl,(blk_cell BK537.out 1).trans rfl,(blk_cell BK555.out 0).trans rfl,(blk_cell BK555.out 1).trans rfl,(blk_cell BK556.out 0).trans rfl,(blk_cell BK556.out 1).trans rfl,(blk_cell BK574.out 0).trans rfl,(blk_cell BK574.out 1).trans rfl,(blk_cell BK575.out 0).trans rfl,(blk_cell BK575.out 1).trans rfl⟩ (fun hHeld=>?_);refine with_tabW whetstonelaw02_awake.tab6 whetstonelaw02_awake.bits6 (fun HT_ HW_=>?_)
             generalize w112.drew = w113 at HO530 HO534 HO549 HO553 HO568 HO572 HO585 BK536 BK537 BK555 BK556 BK574 BK575 BK581 BK587 HB hHeld ⊢
             refine take_ (i:=0) (N:=some 43) (v:=?_) (a':=?_) #[tt,ff,ff,ff,ff,ff,ff,ff,ff,ff,ff,ff,ff,ff,ff,ff,ff,ff,ff,ff,ff,ff,ff,ff,ff,ff,ff,ff,ff,ff,ff,ff,ff,ff,ff,ff,ff,ff,ff,ff,ff,ff,ff,ff,ff,ff,ff,ff,ff,ff,ff,ff,ff,ff,ff,ff,ff,ff,ff,ff,ff,ff,ff] rfl rfl (take_ofW HT_.out HW_.out (by kernel_rfl)) (fun _ _ _ h=>h) (Or.inl ⟨by rfl,?_⟩) hHeld ?_ ?_
             rotate_left
             ·rintro w' ⟨s0,s1,s2,s3,s4,s5,s6,s7,s8,s9,s10,s11⟩
              go_simp
              with_reducible rfl
             rotate_left
             ·simp only [Act.put,sA,sZ,sS,i64_w,i32_w]
              rfl
             refine one_ (i:=1) (N:=some 44) #[tt,tt,ff,ff,ff,ff,ff,ff,ff,ff,ff,ff,ff,ff,ff,ff,ff,ff,ff,ff,ff,ff,ff,ff,ff,ff,ff,ff,ff,ff,ff,ff,ff,ff,ff,ff,ff,ff,ff,ff,ff,ff,ff,ff,ff,ff,ff,ff,ff,ff,ff,ff,ff,ff,ff,ff,ff,ff,ff,ff,ff,ff,ff] rfl rfl (one_of HT_.out (by kernel_rfl)) (by decide) (fun K hK=>?_)
             refine goes_ Tryz.func10 (by kernel_rfl) rfl #[.int .i64 (-4)] (by rfl) rfl rfl zl ?_
             with_reducible refine(num_Of.calls k (-4) t588 t589 _ A12.out).mono ?_
             rintro e w114 ⟨v590,rfl,ho0,hb⟩
             refine⟨_,rfl,?_⟩
             replace HO530:=vb HO530 hb
             replace HO534:=vb HO534 hb
             replace HO549:=vb HO549 hb
             replace HO553:=vb HO553 hb
             replace HO568:=vb HO568 hb
             replace HO572:=vb HO572 hb
             replace HO585:=vb HO585 hb
             have HO591:=am (Kd.V_lower (Kd.V_mono (ok':=fun k_=>k_≠gb536∧k_≠gb537∧k_≠gb555∧k_≠gb556∧k_≠gb574∧k_≠gb575∧k_≠gb581∧k_≠gb587) ho0 (fun k_ hk_=>⟨(fb BK536 k_ hk_),(fb BK537 k_ hk_),(fb BK555 k_ hk_),(fb BK556 k_ hk_),(fb BK574 k_ hk_),(fb BK575 k_ hk_),(fb BK581 k_ hk_),(fb BK587 k_ hk_)⟩)) (below_size zb))
             replace BK536:=kb BK536 hb
             replace BK537:=kb BK537 hb
             replace BK555:=kb BK555 hb
             replace BK556:=kb BK556 hb
             replace BK574:=kb BK574 hb
             replace BK575:=kb BK575 hb
             replace BK581:=kb BK581 hb
             replace BK587:=kb BK587 hb
             replace HB:=am (below_step zb hb)
             (try clear hb)
             (try clear hb2)
             (try clear hk)
             (try clear hi)
             (try clear ho0)
             obtain⟨Ao115,co115,eo115⟩:=Kd.V_slice HO591.out
             (first | subst eo115 |(injection eo115 with f1_ f2_ f3_;have f4_:=f1_.symm;have f5_:=f3_.symm;clear f1_ f2_ f3_;subst f4_;subst f5_))
             refine hK.out _ _ ⟨(blk_cell BK536.out 0).trans rfl,(blk_cell BK536.out 1).trans rfl,(blk_cell BK537.out 0).trans rfl,(blk_cell BK537.out 1).trans rfl,(blk_cell BK555.out 0).trans rfl,(blk_cell BK555.out 1).trans rfl,(blk_cell BK556.out 0).trans rfl,(blk_cell BK556.out 1).trans rfl,(blk_cell BK574.out 0).trans rfl,(blk_cell BK574.out 1).trans rfl,(blk_cell BK575.out 0).trans rfl,(blk_cell BK575.out 1).trans rfl⟩ (fun hHeld=>?_)
             clear hK K
             refine norm_ (a':=?_) ?_ ?_
             rotate_left
             ·show Act.put _ (some 44) _ = _
              simp only [Act.put,sA,sZ,sS,i64_w,i32_w]
              rfl
             refine one_ (i:=2) (N:=some 45) #[tt,tt,tt,ff,ff,ff,ff,ff,ff,ff,ff,ff,ff,ff,ff,ff,ff,ff,ff,ff,ff,ff,ff,ff,ff,ff,ff,ff,ff,ff,ff,ff,ff,ff,ff,ff,ff,ff,ff,ff,ff,ff,ff,ff,ff,ff,ff,ff,ff,ff,ff,ff,ff,ff,ff,ff,ff,ff,ff,ff,ff,ff,ff] rfl rfl (one_of HT_.out (by kernel_rfl)) (by decide) (fun K hK=>?_)
             refine goes_ Tryz.func9 (by kernel_rfl) rfl #[.agg #[.bool t527,.slice Ao52 t528.length co52],.agg #[.bool t588,.slice Ao115 t589.length co115]] (by rfl) rfl rfl zl ?_
             with_reducible refine(whetstonelaw02_same.calls k t527 _ _ t528 t588 _ _ t589 true _ ?side1 ?side2 ?side3 ?side4 A13.out).mono ?_
             (case side1=>exact zC (Kd.V_reads' HO530.out).2.2)
             (case side2=>exact(Kd.V_reads' HO530.out).2.1)
             (case side3=>exact zC (Kd.V_reads' HO591.out).2.2)
             (case side4=>exact(Kd.V_reads' HO591.out).2.1)
             rintro e w116 ⟨rfl,hb⟩
             refine⟨_,rfl,?_⟩
             replace HO530:=vb HO530 hb
             replace HO534:=vb HO534 hb
             replace HO549:=vb HO549 hb
             replace HO553:=vb HO553 hb
             replace HO568:=vb HO568 hb
             replace HO572:=vb HO572 hb
             replace HO585:=vb HO585 hb
             replace HO591:=vb HO591 hb
             replace BK536:=kb BK536 hb
             replace BK537:=kb BK537 hb
             replace BK555:=kb BK555 hb
             replace BK556:=kb BK556 hb
             replace BK574:=kb BK574 hb
             replace BK575:=kb BK575 hb
             replace BK581:=kb BK581 hb
             replace BK587:=kb BK587 hb
             replace HB:=am (below_step zb hb)
             (try clear hb)
             (try clear hb2)
             (try clear hk)
             (try clear hi)
             refine hK.out _ _ ⟨(blk_cell BK536.out 0).trans rfl,(blk_cell BK536.out 1).trans rfl,(blk_cell BK537.out 0).trans rfl,(blk_cell BK537.out 1).trans rfl,(blk_cell BK555.out 0).trans rfl,(blk_cell BK555.out 1).trans rfl,(blk_cell BK556.out 0).trans rfl,(blk_cell BK556.out 1).trans rfl,(blk_cell BK574.out 0).trans rfl,(blk_cell BK574.out 1).trans rfl,(blk_cell BK575.out 0).trans rfl,(blk_cell BK575.out 1).trans rfl⟩ (fun hHeld=>?_)
             clear hK K
             refine norm_ (a':=?_) ?_ ?_
             rotate_left
             ·show Act.put _ (some 45) _ = _
              simp only [Act.put,sA,sZ,sS,i64_w,i32_w]
              rfl
             refine pu (i:=3) (N:=some 46) #[tt,tt,tt,tt,ff,ff,ff,ff,ff,ff,ff,ff,ff,ff,ff,ff,ff,ff,ff,ff,ff,ff,ff,ff,ff,ff,ff,ff,ff,ff,ff,ff,ff,ff,ff,ff,ff,ff,ff,ff,ff,ff,ff,ff,ff,ff,ff,ff,ff,ff,ff,ff,ff,ff,ff,ff,ff,ff,ff,ff,ff,ff,ff] (any_of HT_.out (by kernel_rfl)) ?_
             refine take_ (i:=4) (N:=some 47) (v:=?_) (a':=?_) #[tt,tt,tt,tt,tt,ff,ff,ff,ff,ff,ff,ff,ff,ff,ff,ff,ff,ff,ff,ff,ff,ff,ff,ff,ff,ff,ff,ff,ff,ff,ff,ff,ff,ff,ff,ff,ff,ff,ff,ff,ff,ff,ff,ff,ff,ff,ff,ff,ff,ff,ff,ff,ff,ff,ff,ff,ff,ff,ff,ff,ff,ff,ff] rfl rfl (take_ofW HT_.out HW_.out (by kernel_rfl)) (fun _ _ _ h=>h) (Or.inl ⟨by rfl,?_⟩) hHeld ?_ ?_
             rotate_left
             ·rintro w' ⟨s0,s1,s2,s3,s4,s5,s6,s7,s8,s9,s10,s11⟩
              go_simp
              with_reducible rfl
             rotate_left
             ·simp only [Act.put,sA,sZ,sS,i64_w,i32_w]
              rfl
             refine one_ (i:=5) (N:=some 48) #[tt,tt,tt,tt,tt,tt,ff,ff,ff,ff,ff,ff,ff,ff,ff,ff,ff,ff,ff,ff,ff,ff,ff,ff,ff,ff,ff,ff,ff,ff,ff,ff,ff,ff,ff,ff,ff,ff,ff,ff,ff,ff,ff,ff,ff,ff,ff,ff,ff,ff,ff,ff,ff,ff,ff,ff,ff,ff,ff,ff,ff,ff,ff] rfl rfl (one_of HT_.out (by kernel_rfl)) (by decide) (fun K hK=>?_)
             refine goes_ Tryz.func10 (by kernel_rfl) rfl #[.int .i64 1] (by rfl) rfl rfl zl ?_
             with_reducible refine(num_Of.calls k 1 t593 t594 _ A15.out).mono ?_
             rintro e w117 ⟨v595,rfl,ho0,hb⟩
             refine⟨_,rfl,?_⟩
             replace HO530:=vb HO530 hb
             replace HO534:=vb HO534 hb
             replace HO549:=vb HO549 hb
             replace HO553:=vb HO553 hb
             replace HO568:=vb HO568 hb
             replace HO572:=vb HO572 hb
             replace HO585:=vb HO585 hb
             replace HO591:=vb HO591 hb
             have HO596:=am (Kd.V_lower (Kd.V_mono (ok':=fun k_=>k_≠gb536∧k_≠gb537∧k_≠gb555∧k_≠gb556∧k_≠gb574∧k_≠gb575∧k_≠gb581∧k_≠gb587) ho0 (fun k_ hk_=>⟨(fb BK536 k_ hk_),(fb BK537 k_ hk_),(fb BK555 k_ hk_),(fb BK556 k_ hk_),(fb BK574 k_ hk_),(fb BK575 k_ hk_),(fb BK581 k_ hk_),(fb BK587 k_ hk_)⟩)) (below_size zb))
             replace BK536:=kb BK536 hb
             replace BK537:=kb BK537 hb
             replace BK555:=kb BK555 hb
             replace BK556:=kb BK556 hb
             replace BK574:=kb BK574 hb
             replace BK575:=kb BK575 hb
             replace BK581:=kb BK581 hb
             replace BK587:=kb BK587 hb
             replace HB:=am (below_step zb hb)
             (try clear hb)
             (try clear hb2)
             (try clear hk)
             (try clear hi)
             (try clear ho0)
             obtain⟨Ao118,co118,eo118⟩:=Kd.V_slice HO596.out
             (first | subst eo118 |(injection eo118 with f1_ f2_ f3_;have f4_:=f1_.symm;have f5_:=f3_.symm;clear f1_ f2_ f3_;subst f4_;subst f5_))
             refine hK.out _ _ ⟨(blk_cell BK536.out 0).trans rfl,(blk_cell BK536.out 1).trans rfl,(blk_cell BK537.out 0).trans rfl,(blk_cell BK537.out 1).trans rfl,(blk_cell BK555.out 0).trans rfl,(blk_cell BK555.out 1).trans rfl,(blk_cell BK556.out 0).trans rfl,(blk_cell BK556.out 1).trans rfl,(blk_cell BK574.out 0).trans rfl,(blk_cell BK574.out 1).trans rfl,(blk_cell BK575.out 0).trans rfl,(blk_cell BK575.out 1).trans rfl⟩ (fun hHeld=>?_)
             clear hK K
             refine norm_ (a':=?_) ?_ ?_
             rotate_left
             ·show Act.put _ (some 48) _ = _
              simp only [Act.put,sA,sZ,sS,i64_w,i32_w]
              rfl
             refine one_ (i:=6) (N:=some 49) #[tt,tt,tt,tt,tt,tt,tt,ff,ff,ff,ff,ff,ff,ff,ff,ff,ff,ff,ff,ff,ff,ff,ff,ff,ff,ff,ff,ff,ff,ff,ff,ff,ff,ff,ff,ff,ff,ff,ff,ff,ff,ff,ff,ff,ff,ff,ff,ff,ff,ff,ff,ff,ff,ff,ff,ff,ff,ff,ff,ff,ff,ff,ff] rfl rfl (one_of HT_.out (by kernel_rfl)) (by decide) (fun K hK=>?_)
             refine goes_ Tryz.func9 (by kernel_rfl) rfl #[.agg #[.bool t531,.slice Ao54 t532.length co54],.agg #[.bool t593,.slice Ao118 t594.length co118]] (by rfl) rfl rfl zl ?_
             with_reducible refine(whetstonelaw02_same.calls k t531 _ _ t532 t593 _ _ t594 true _ ?side1 ?side2 ?side3 ?side4 A16.out).mono ?_
             (case side1=>exact zC (Kd.V_reads' HO534.out).2.2)
             (case side2=>exact(Kd.V_reads' HO534.out).2.1)
             (case side3=>exact zC (Kd.V_reads' HO596.out).2.2)
             (case side4=>exact(Kd.V_reads' HO596.out).2.1)
             rintro e w119 ⟨rfl,hb⟩
             refine⟨_,rfl,?_⟩
             replace HO530:=vb HO530 hb
             replace HO534:=vb HO534 hb
             replace HO549:=vb HO549 hb
             replace HO553:=vb HO553 hb
             replace HO568:=vb HO568 hb
             replace HO572:=vb HO572 hb
             replace HO585:=vb HO585 hb
             replace HO591:=vb HO591 hb
             replace HO596:=vb HO596 hb
             replace BK536:=kb BK536 hb
             replace BK537:=kb BK537 hb
             replace BK555:=kb BK555 hb
             replace BK556:=kb BK556 hb
             replace BK574:=kb BK574 hb
             replace BK575:=kb BK575 hb
             replace BK581:=kb BK581 hb
             replace BK587:=kb BK587 hb
             replace HB:=am (below_step zb hb)
             (try clear hb)
             (try clear hb2)
             (try clear hk)
             (try clear hi)
             refine hK.out _ _ ⟨(blk_cell BK536.out 0).trans rfl,(blk_cell BK536.out 1).trans rfl,(blk_cell BK537.out 0).trans rfl,(blk_cell BK537.out 1).trans rfl,(blk_cell BK555.out 0).trans rfl,(blk_cell BK555.out 1).trans rfl,(blk_cell BK556.out 0).trans rfl,(blk_cell BK556.out 1).trans rfl,(blk_cell BK574.out 0).trans rfl,(blk_cell BK574.out 1).trans rfl,(blk_cell BK575.out 0).trans rfl,(blk_cell BK575.out 1).trans rfl⟩ (fun hHeld=>?_)
             clear hK K
             refine norm_ (a':=?_) ?_ ?_
             rotate_left
             ·show Act.put _ (some 49) _ = _
              simp only [Act.put,sA,sZ,sS,i64_w,i32_w]
              rfl
             refine pu (i:=7) (N:=some 50) #[tt,tt,tt,tt,tt,tt,tt,tt,ff,ff,ff,ff,ff,ff,ff,ff,ff,ff,ff,ff,ff,ff,ff,ff,ff,ff,ff,ff,ff,ff,ff,ff,ff,ff,ff,ff,ff,ff,ff,ff,ff,ff,ff,ff,ff,ff,ff,ff,ff,ff,ff,ff,ff,ff,ff,ff,ff,ff,ff,ff,ff,ff,ff] (any_of HT_.out (by kernel_rfl)) ?_
             refine pu (i:=8) (N:=some 51) #[tt,tt,tt,tt,tt,tt,tt,tt,tt,ff,ff,ff,ff,ff,ff,ff,ff,ff,ff,ff,ff,ff,ff,ff,ff,ff,ff,ff,ff,ff,ff,ff,ff,ff,ff,ff,ff,ff,ff,ff,ff,ff,ff,ff,ff,ff,ff,ff,ff,ff,ff,ff,ff,ff,ff,ff,ff,ff,ff,ff,ff,ff,ff] (any_of HT_.out (by kernel_rfl)) ?_
             refine pu (i:=9) (N:=some 52) #[tt,tt,tt,tt,tt,tt,tt,tt,tt,tt,ff,ff,ff,ff,ff,ff,ff,ff,ff,ff,ff,ff,ff,ff,ff,ff,ff,ff,ff,ff,ff,ff,ff,ff,ff,ff,ff,ff,ff,ff,ff,ff,ff,ff,ff,ff,ff,ff,ff,ff,ff,ff,ff,ff,ff,ff,ff,ff,ff,ff,ff,ff,ff] (any_of HT_.out (by kernel_rfl)) ?_
             refine pu (i:=10) (N:=some 53) #[tt,tt,tt,tt,tt,tt,tt,tt,tt,tt,tt,ff,ff,ff,ff,ff,ff,ff,ff,ff,ff,ff,ff,ff,ff,ff,ff,ff,ff,ff,ff,ff,ff,ff,ff,ff,ff,ff,ff,ff,ff,ff,ff,ff,ff,ff,ff,ff,ff,ff,ff,ff,ff,ff,ff,ff,ff,ff,ff,ff,ff,ff,ff] (any_of HT_.out (by kernel_rfl)) ?_
             refine pu (i:=11) (N:=some 54) #[tt,tt,tt,tt,tt,tt,tt,tt,tt,tt,tt,tt,ff,ff,ff,ff,ff,ff,ff,ff,ff,ff,ff,ff,ff,ff,ff,ff,ff,ff,ff,ff,ff,ff,ff,ff,ff,ff,ff,ff,ff,ff,ff,ff,ff,ff,ff,ff,ff,ff,ff,ff,ff,ff,ff,ff,ff,ff,ff,ff,ff,ff,ff] (any_of HT_.out (by kernel_rfl)) ?_
             refine pu (i:=12) (N:=some 55) #[tt,tt,tt,tt,tt,tt,tt,tt,tt,tt,tt,tt,tt,ff,ff,ff,ff,ff,ff,ff,ff,ff,ff,ff,ff,ff,ff,ff,ff,ff,ff,ff,ff,ff,ff,ff,ff,ff,ff,ff,ff,ff,ff,ff,ff,ff,ff,ff,ff,ff,ff,ff,ff,ff,ff,ff,ff,ff,ff,ff,ff,ff,ff] (any_of HT_.out (by kernel_rfl)) ?_
             refine take_ (i:=13) (N:=some 56) (v:=?_) (a':=?_) #[tt,tt,tt,tt,tt,tt,tt,tt,tt,tt,tt,tt,tt,tt,ff,ff,ff,ff,ff,ff,ff,ff,ff,ff,ff,ff,ff,ff,ff,ff,ff,ff,ff,ff,ff,ff,ff,ff,ff,ff,ff,ff,ff,ff,ff,ff,ff,ff,ff,ff,ff,ff,ff,ff,ff,ff,ff,ff,ff,ff,ff,ff,ff] rfl rfl (take_ofW HT_.out HW_.out (by kernel_rfl)) (fun _ _ _ h=>h) (Or.inl ⟨by rfl,?_⟩) hHeld ?_ ?_
             rotate_left
             ·rintro w' ⟨s0,s1,s2,s3,s4,s5,s6,s7,s8,s9,s10,s11⟩
              go_simp
              with_reducible rfl
             rotate_left
             ·simp only [Act.put,sA,sZ,sS,i64_w,i32_w]
              rfl
             refine one_ (i:=14) (N:=some 57) #[tt,tt,tt,tt,tt,tt,tt,tt,tt,tt,tt,tt,tt,tt,tt,ff,ff,ff,ff,ff,ff,ff,ff,ff,ff,ff,ff,ff,ff,ff,ff,ff,ff,ff,ff,ff,ff,ff,ff,ff,ff,ff,ff,ff,ff,ff,ff,ff,ff,ff,ff,ff,ff,ff,ff,ff,ff,ff,ff,ff,ff,ff,ff] rfl rfl (one_of HT_.out (by kernel_rfl)) (by decide) (fun K hK=>?_)
             refine goes_ Tryz.func10 (by kernel_rfl) rfl #[.int .i64 (-4)] (by rfl) rfl rfl zl ?_
             with_reducible refine(num_Of.calls k (-4) t598 t599 _ A19.out).mono ?_
             rintro e w120 ⟨v600,rfl,ho0,hb⟩
             refine⟨_,rfl,?_⟩
             replace HO530:=vb HO530 hb
             replace HO534:=vb HO534 hb
             replace HO549:=vb HO549 hb
             replace HO553:=vb HO553 hb
             replace HO568:=vb HO568 hb
             replace HO572:=vb HO572 hb
             replace HO585:=vb HO585 hb
             replace HO591:=vb HO591 hb
             replace HO596:=vb HO596 hb
             have HO601:=am (Kd.V_lower (Kd.V_mono (ok':=fun k_=>k_≠gb536∧k_≠gb537∧k_≠gb555∧k_≠gb556∧k_≠gb574∧k_≠gb575∧k_≠gb581∧k_≠gb587) ho0 (fun k_ hk_=>⟨(fb BK536 k_ hk_),(fb BK537 k_ hk_),(fb BK555 k_ hk_),(fb BK556 k_ hk_),(fb BK574 k_ hk_),(fb BK575 k_ hk_),(fb BK581 k_ hk_),(fb BK587 k_ hk_)⟩)) (below_size zb))
             replace BK536:=kb BK536 hb
             replace BK537:=kb BK537 hb
             replace BK555:=kb BK555 hb
             replace BK556:=kb BK556 hb
             replace BK574:=kb BK574 hb
             replace BK575:=kb BK575 hb
             replace BK581:=kb BK581 hb
             replace BK587:=kb BK587 hb
             replace HB:=am (below_step zb hb)
             (try clear hb)
             (try clear hb2)
             (try clear hk)
             (try clear hi)
             (try clear ho0)
             obtain⟨Ao121,co121,eo121⟩:=Kd.V_slice HO601.out
             (first | subst eo121 |(injection eo121 with f1_ f2_ f3_;have f4_:=f1_.symm;have f5_:=f3_.symm;clear f1_ f2_ f3_;subst f4_;subst f5_))
             refine hK.out _ _ ⟨(blk_cell BK536.out 0).trans rfl,(blk_cell BK536.out 1).trans rfl,(blk_cell BK537.out 0).trans rfl,(blk_cell BK537.out 1).trans rfl,(blk_cell BK555.out 0).trans rfl,(blk_cell BK555.out 1).trans rfl,(blk_cell BK556.out 0).trans rfl,(blk_cell BK556.out 1).trans rfl,(blk_cell BK574.out 0).trans rfl,(blk_cell BK574.out 1).trans rfl,(blk_cell BK575.out 0).trans rfl,(blk_cell BK575.out 1).trans rfl⟩ (fun hHeld=>?_)
             clear hK K
             refine norm_ (a':=?_) ?_ ?_
             rotate_left
             ·show Act.put _ (some 57) _ = _
              simp only [Act.put,sA,sZ,sS,i64_w,i32_w]
              rfl
             refine one_ (i:=15) (N:=some 58) #[tt,tt,tt,tt,tt,tt,tt,tt,tt,tt,tt,tt,tt,tt,tt,tt,ff,ff,ff,ff,ff,ff,ff,ff,ff,ff,ff,ff,ff,ff,ff,ff,ff,ff,ff,ff,ff,ff,ff,ff,ff,ff,ff,ff,ff,ff,ff,ff,ff,ff,ff,ff,ff,ff,ff,ff,ff,ff,ff,ff,ff,ff,ff] rfl rfl (one_of HT_.out (by kernel_rfl)) (by decide) (fun K hK=>?_)
             refine goes_ Tryz.func9 (by kernel_rfl) rfl #[.agg #[.bool t546,.slice Ao66 t547.length co66],.agg #[.bool t598,.slice Ao121 t599.length co121]] (by rfl) rfl rfl zl ?_
             with_reducible refine(whetstonelaw02_same.calls k t546 _ _ t547 t598 _ _ t599 true _ ?side1 ?side2 ?side3 ?side4 A20.out).mono ?_
             (case side1=>exact zC (Kd.V_reads' HO549.out).2.2)
             (case side2=>exact(Kd.V_reads' HO549.out).2.1)
             (case side3=>exact zC (Kd.V_reads' HO601.out).2.2)
             (case side4=>exact(Kd.V_reads' HO601.out).2.1)
             rintro e w122 ⟨rfl,hb⟩
             refine⟨_,rfl,?_⟩
             replace HO530:=vb HO530 hb
             replace HO534:=vb HO534 hb
             replace HO549:=vb HO549 hb
             replace HO553:=vb HO553 hb
             replace HO568:=vb HO568 hb
             replace HO572:=vb HO572 hb
             replace HO585:=vb HO585 hb
             replace HO591:=vb HO591 hb
             replace HO596:=vb HO596 hb
             replace HO601:=vb HO601 hb
             replace BK536:=kb BK536 hb
             replace BK537:=kb BK537 hb
             replace BK555:=kb BK555 hb
             replace BK556:=kb BK556 hb
             replace BK574:=kb BK574 hb
             replace BK575:=kb BK575 hb
             replace BK581:=kb BK581 hb
             replace BK587:=kb BK587 hb
             replace HB:=am (below_step zb hb)
             (try clear hb)
             (try clear hb2)
             (try clear hk)
             (try clear hi)
             refine hK.out _ _ ⟨(blk_cell BK536.out 0).trans rfl,(blk_cell BK536.out 1).trans rfl,(blk_cell BK537.out 0).trans rfl,(blk_cell BK537.out 1).trans rfl,(blk_cell BK555.out 0).trans rfl,(blk_cell BK555.out 1).trans rfl,(blk_cell BK556.out 0).trans rfl,(blk_cell BK556.out 1).trans rfl,(blk_cell BK574.out 0).trans rfl,(blk_cell BK574.out 1).trans rfl,(blk_cell BK575.out 0).trans rfl,(blk_cell BK575.out 1).trans rfl⟩ (fun hHeld=>?_)
             clear hK K
             refine norm_ (a':=?_) ?_ ?_
             rotate_left
             ·show Act.put _ (some 58) _ = _
              simp only [Act.put,sA,sZ,sS,i64_w,i32_w]
              rfl
             refine pu (i:=16) (N:=some 59) #[tt,tt,tt,tt,tt,tt,tt,tt,tt,tt,tt,tt,tt,tt,tt,tt,tt,ff,ff,ff,ff,ff,ff,ff,ff,ff,ff,ff,ff,ff,ff,ff,ff,ff,ff,ff,ff,ff,ff,ff,ff,ff,ff,ff,ff,ff,ff,ff,ff,ff,ff,ff,ff,ff,ff,ff,ff,ff,ff,ff,ff,ff,ff] (any_of HT_.out (by kernel_rfl)) ?_
             refine pu (i:=17) (N:=some 60) #[tt,tt,tt,tt,tt,tt,tt,tt,tt,tt,tt,tt,tt,tt,tt,tt,tt,tt,ff,ff,ff,ff,ff,ff,ff,ff,ff,ff,ff,ff,ff,ff,ff,ff,ff,ff,ff,ff,ff,ff,ff,ff,ff,ff,ff,ff,ff,ff,ff,ff,ff,ff,ff,ff,ff,ff,ff,ff,ff,ff,ff,ff,ff] (any_of HT_.out (by kernel_rfl)) ?_
             refine take_ (i:=18) (N:=some 61) (v:=?_) (a':=?_) #[tt,tt,tt,tt,tt,tt,tt,tt,tt,tt,tt,tt,tt,tt,tt,tt,tt,tt,tt,ff,ff,ff,ff,ff,ff,ff,ff,ff,ff,ff,ff,ff,ff,ff,ff,ff,ff,ff,ff,ff,ff,ff,ff,ff,ff,ff,ff,ff,ff,ff,ff,ff,ff,ff,ff,ff,ff,ff,ff,ff,ff,ff,ff] rfl rfl (take_ofW HT_.out HW_.out (by kernel_rfl)) (fun _ _ _ h=>h) (Or.inl ⟨by rfl,?_⟩) hHeld ?_ ?_
             rotate_left
             ·rintro w' ⟨s0,s1,s2,s3,s4,s5,s6,s7,s8,s9,s10,s11⟩
              go_simp
              with_reducible rfl
             rotate_left
             ·simp only [Act.put,sA,sZ,sS,i64_w,i32_w]
              rfl
             refine one_ (i:=19) (N:=some 62) #[tt,tt,tt,tt,tt,tt,tt,tt,tt,tt,tt,tt,tt,tt,tt,tt,tt,tt,tt,tt,ff,ff,ff,ff,ff,ff,ff,ff,ff,ff,ff,ff,ff,ff,ff,ff,ff,ff,ff,ff,ff,ff,ff,ff,ff,ff,ff,ff,ff,ff,ff,ff,ff,ff,ff,ff,ff,ff,ff,ff,ff,ff,ff] rfl rfl (one_of HT_.out (by kernel_rfl)) (by decide) (fun K hK=>?_)
             refine goes_ Tryz.func10 (by kernel_rfl) rfl #[.int .i64 (-1)] (by rfl) rfl rfl zl ?_
             with_reducible refine(num_Of.calls k (-1) t603 t604 _ A22.out).mono ?_
             rintro e w123 ⟨v605,rfl,ho0,hb⟩
             refine⟨_,rfl,?_⟩
             replace HO530:=vb HO530 hb
             replace HO534:=vb HO534 hb
             replace HO549:=vb HO549 hb
             replace HO553:=vb HO553 hb
             replace HO568:=vb HO568 hb
             replace HO572:=vb HO572 hb
             replace HO585:=vb HO585 hb
             replace HO591:=vb HO591 hb
             replace HO596:=vb HO596 hb
             replace HO601:=vb HO601 hb
             have HO606:=am (Kd.V_lower (Kd.V_mono (ok':=fun k_=>k_≠gb536∧k_≠gb537∧k_≠gb555∧k_≠gb556∧k_≠gb574∧k_≠gb575∧k_≠gb581∧k_≠gb587) ho0 (fun k_ hk_=>⟨(fb BK536 k_ hk_),(fb BK537 k_ hk_),(fb BK555 k_ hk_),(fb BK556 k_ hk_),(fb BK574 k_ hk_),(fb BK575 k_ hk_),(fb BK581 k_ hk_),(fb BK587 k_ hk_)⟩)) (below_size zb))
             replace BK536:=kb BK536 hb
             replace BK537:=kb BK537 hb
             replace BK555:=kb BK555 hb
             replace BK556:=kb BK556 hb
             replace BK574:=kb BK574 hb
             replace BK575:=kb BK575 hb
             replace BK581:=kb BK581 hb
             replace BK587:=kb BK587 hb
             replace HB:=am (below_step zb hb)
             (try clear hb)
             (try clear hb2)
             (try clear hk)
             (try clear hi)
             (try clear ho0)
             obtain⟨Ao124,co124,eo124⟩:=Kd.V_slice HO606.out
             (first | subst eo124 |(injection eo124 with f1_ f2_ f3_;have f4_:=f1_.symm;have f5_:=f3_.symm;clear f1_ f2_ f3_;subst f4_;subst f5_))
             refine hK.out _ _ ⟨(blk_cell BK536.out 0).trans rfl,(blk_cell BK536.out 1).trans rfl,(blk_cell BK537.out 0).trans rfl,(blk_cell BK537.out 1).trans rfl,(blk_cell BK555.out 0).trans rfl,(blk_cell BK555.out 1).trans rfl,(blk_cell BK556.out 0).trans rfl,(blk_cell BK556.out 1).trans rfl,(blk_cell BK574.out 0).trans rfl,(blk_cell BK574.out 1).trans rfl,(blk_cell BK575.out 0).trans rfl,(blk_cell BK575.out 1).trans rfl⟩ (fun hHeld=>?_)
             clear hK K
             refine norm_ (a':=?_) ?_ ?_
             rotate_left
             ·show Act.put _ (some 62) _ = _
              simp only [Act.put,sA,sZ,sS,i64_w,i32_w]
              rfl
             refine one_ (i:=20) (N:=some 63) #[tt,tt,tt,tt,tt,tt,tt,tt,tt,tt,tt,tt,tt,tt,tt,tt,tt,tt,tt,tt,tt,ff,ff,ff,ff,ff,ff,ff,ff,ff,ff,ff,ff,ff,ff,ff,ff,ff,ff,ff,ff,ff,ff,ff,ff,ff,ff,ff,ff,ff,ff,ff,ff,ff,ff,ff,ff,ff,ff,ff,ff,ff,ff] rfl rfl (one_of HT_.out (by kernel_rfl)) (by decide) (fun K hK=>?_)
             refine goes_ Tryz.func9 (by kernel_rfl) rfl #[.agg #[.bool t550,.slice Ao70 t551.length co70],.agg #[.bool t603,.slice Ao124 t604.length co124]] (by rfl) rfl rfl zl ?_
             with_reducible refine(whetstonelaw02_same.calls k t550 _ _ t551 t603 _ _ t604 true _ ?side1 ?side2 ?side3 ?side4 A23.out).mono ?_
             (case side1=>exact zC (Kd.V_reads' HO553.out).2.2)
             (case side2=>exact(Kd.V_reads' HO553.out).2.1)
             (case side3=>exact zC (Kd.V_reads' HO606.out).2.2)
             (case side4=>exact(Kd.V_reads' HO606.out).2.1)
             rintro e w125 ⟨rfl,hb⟩
             refine⟨_,rfl,?_⟩
             replace HO530:=vb HO530 hb
             replace HO534:=vb HO534 hb
             replace HO549:=vb HO549 hb
             replace HO553:=vb HO553 hb
             replace HO568:=vb HO568 hb
             replace HO572:=vb HO572 hb
             replace HO585:=vb HO585 hb
             replace HO591:=vb HO591 hb
             replace HO596:=vb HO596 hb
             replace HO601:=vb HO601 hb
             replace HO606:=vb HO606 hb
             replace BK536:=kb BK536 hb
             replace BK537:=kb BK537 hb
             replace BK555:=kb BK555 hb
             replace BK556:=kb BK556 hb
             replace BK574:=kb BK574 hb
             replace BK575:=kb BK575 hb
             replace BK581:=kb BK581 hb
             replace BK587:=kb BK587 hb
             replace HB:=am (below_step zb hb)
             (try clear hb)
             (try clear hb2)
             (try clear hk)
             (try clear hi)
             refine hK.out _ _ ⟨(blk_cell BK536.out 0).trans rfl,(blk_cell BK536.out 1).trans rfl,(blk_cell BK537.out 0).trans rfl,(blk_cell BK537.out 1).trans rfl,(blk_cell BK555.out 0).trans rfl,(blk_cell BK555.out 1).trans rfl,(blk_cell BK556.out 0).trans rfl,(blk_cell BK556.out 1).trans rfl,(blk_cell BK574.out 0).trans rfl,(blk_cell BK574.out 1).trans rfl,(blk_cell BK575.out 0).trans rfl,(blk_cell BK575.out 1).trans rfl⟩ (fun hHeld=>?_)
             clear hK K
             refine norm_ (a':=?_) ?_ ?_
             rotate_left
             ·show Act.put _ (some 63) _ = _
              simp only [Act.put,sA,sZ,sS,i64_w,i32_w]
              rfl
             refine pu (i:=21) (N:=some 64) #[tt,tt,tt,tt,tt,tt,tt,tt,tt,tt,tt,tt,tt,tt,tt,tt,tt,tt,tt,tt,tt,tt,ff,ff,ff,ff,ff,ff,ff,ff,ff,ff,ff,ff,ff,ff,ff,ff,ff,ff,ff,ff,ff,ff,ff,ff,ff,ff,ff,ff,ff,ff,ff,ff,ff,ff,ff,ff,ff,ff,ff,ff,ff] (any_of HT_.out (by kernel_rfl)) ?_
             refine pu (i:=22) (N:=some 65) #[tt,tt,tt,tt,tt,tt,tt,tt,tt,tt,tt,tt,tt,tt,tt,tt,tt,tt,tt,tt,tt,tt,tt,ff,ff,ff,ff,ff,ff,ff,ff,ff,ff,ff,ff,ff,ff,ff,ff,ff,ff,ff,ff,ff,ff,ff,ff,ff,ff,ff,ff,ff,ff,ff,ff,ff,ff,ff,ff,ff,ff,ff,ff] (any_of HT_.out (by kernel_rfl)) ?_
             refine pu (i:=23) (N:=some 66) #[tt,tt,tt,tt,tt,tt,tt,tt,tt,tt,tt,tt,tt,tt,tt,tt,tt,tt,tt,tt,tt,tt,tt,tt,ff,ff,ff,ff,ff,ff,ff,ff,ff,ff,ff,ff,ff,ff,ff,ff,ff,ff,ff,ff,ff,ff,ff,ff,ff,ff,ff,ff,ff,ff,ff,ff,ff,ff,ff,ff,ff,ff,ff] (any_of HT_.out (by kernel_rfl)) ?_
             refine pu (i:=24) (N:=some 67) #[tt,tt,tt,tt,tt,tt,tt,tt,tt,tt,tt,tt,tt,tt,tt,tt,tt,tt,tt,tt,tt,tt,tt,tt,tt,ff,ff,ff,ff,ff,ff,ff,ff,ff,ff,ff,ff,ff,ff,ff,ff,ff,ff,ff,ff,ff,ff,ff,ff,ff,ff,ff,ff,ff,ff,ff,ff,ff,ff,ff,ff,ff,ff] (any_of HT_.out (by kernel_rfl)) ?_
             refine pu (i:=25) (N:=some 68) #[tt,tt,tt,tt,tt,tt,tt,tt,tt,tt,tt,tt,tt,tt,tt,tt,tt,tt,tt,tt,tt,tt,tt,tt,tt,tt,ff,ff,ff,ff,ff,ff,ff,ff,ff,ff,ff,ff,ff,ff,ff,ff,ff,ff,ff,ff,ff,ff,ff,ff,ff,ff,ff,ff,ff,ff,ff,ff,ff,ff,ff,ff,ff] (any_of HT_.out (by kernel_rfl)) ?_
             refine pu (i:=26) (N:=some 69) #[tt,tt,tt,tt,tt,tt,tt,tt,tt,tt,tt,tt,tt,tt,tt,tt,tt,tt,tt,tt,tt,tt,tt,tt,tt,tt,tt,ff,ff,ff,ff,ff,ff,ff,ff,ff,ff,ff,ff,ff,ff,ff,ff,ff,ff,ff,ff,ff,ff,ff,ff,ff,ff,ff,ff,ff,ff,ff,ff,ff,ff,ff,ff] (any_of HT_.out (by kernel_rfl)) ?_
             refine take_ (i:=27) (N:=some 70) (v:=?_) (a':=?_) #[tt,tt,tt,tt,tt,tt,tt,tt,tt,tt,tt,tt,tt,tt,tt,tt,tt,tt,tt,tt,tt,tt,tt,tt,tt,tt,tt,tt,ff,ff,ff,ff,ff,ff,ff,ff,ff,ff,ff,ff,ff,ff,ff,ff,ff,ff,ff,ff,ff,ff,ff,ff,ff,ff,ff,ff,ff,ff,ff,ff,ff,ff,ff] rfl rfl (take_ofW HT_.out HW_.out (by kernel_rfl)) (fun _ _ _ h=>h) (Or.inl ⟨by rfl,?_⟩) hHeld ?_ ?_
             rotate_left
             ·rintro w' ⟨s0,s1,s2,s3,s4,s5,s6,s7,s8,s9,s10,s11⟩
              go_simp
              with_reducible rfl
             rotate_left
             ·simp only [Act.put,sA,sZ,sS,i64_w,i32_w]
              rfl
             refine one_ (i:=28) (N:=some 71) #[tt,tt,tt,tt,tt,tt,tt,tt,tt,tt,tt,tt,tt,tt,tt,tt,tt,tt,tt,tt,tt,tt,tt,tt,tt,tt,tt,tt,tt,ff,ff,ff,ff,ff,ff,ff,ff,ff,ff,ff,ff,ff,ff,ff,ff,ff,ff,ff,ff,ff,ff,ff,ff,ff,ff,ff,ff,ff,ff,ff,ff,ff,ff] rfl rfl (one_of HT_.out (by kernel_rfl)) (by decide) (fun K hK=>?_)
             refine goes_ Tryz.func10 (by kernel_rfl) rfl #[.int .i64 3] (by rfl) rfl rfl zl ?_
             with_reducible refine(num_Of.calls k 3 t608 t609 _ A26.out).mono ?_
             rintro e w126 ⟨v610,rfl,ho0,hb⟩
             refine⟨_,rfl,?_⟩
             replace HO530:=vb HO530 hb
             replace HO534:=vb HO534 hb
             replace HO549:=vb HO549 hb
             replace HO553:=vb HO553 hb
             replace HO568:=vb HO568 hb
             replace HO572:=vb HO572 hb
             replace HO585:=vb HO585 hb
             replace HO591:=vb HO591 hb
             replace HO596:=vb HO596 hb
             replace HO601:=vb HO601 hb
             replace HO606:=vb HO606 hb
             have HO611:=am (Kd.V_lower (Kd.V_mono (ok':=fun k_=>k_≠gb536∧k_≠gb537∧k_≠gb555∧k_≠gb556∧k_≠gb574∧k_≠gb575∧k_≠gb581∧k_≠gb587) ho0 (fun k_ hk_=>⟨(fb BK536 k_ hk_),(fb BK537 k_ hk_),(fb BK555 k_ hk_),(fb BK556 k_ hk_),(fb BK574 k_ hk_),(fb BK575 k_ hk_),(fb BK581 k_ hk_),(fb BK587 k_ hk_)⟩)) (below_size zb))
             replace BK536:=kb BK536 hb
             replace BK537:=kb BK537 hb
             replace BK555:=kb BK555 hb
             replace BK556:=kb BK556 hb
             replace BK574:=kb BK574 hb
             replace BK575:=kb BK575 hb
             replace BK581:=kb BK581 hb
             replace BK587:=kb BK587 hb
             replace HB:=am (below_step zb hb)
             (try clear hb)
             (try clear hb2)
             (try clear hk)
             (try clear hi)
             (try clear ho0)
             obtain⟨Ao127,co127,eo127⟩:=Kd.V_slice HO611.out
             (first | subst eo127 |(injection eo127 with f1_ f2_ f3_;have f4_:=f1_.symm;have f5_:=f3_.symm;clear f1_ f2_ f3_;subst f4_;subst f5_))
             refine hK.out _ _ ⟨(blk_cell BK536.out 0).trans rfl,(blk_cell BK536.out 1).trans rfl,(blk_cell BK537.out 0).trans rfl,(blk_cell BK537.out 1).trans rfl,(blk_cell BK555.out 0).trans rfl,(blk_cell BK555.out 1).trans rfl,(blk_cell BK556.out 0).trans rfl,(blk_cell BK556.out 1).trans rfl,(blk_cell BK574.out 0).trans rfl,(blk_cell BK574.out 1).trans rfl,(blk_cell BK575.out 0).trans rfl,(blk_cell BK575.out 1).trans rfl⟩ (fun hHeld=>?_)
             clear hK K
             refine norm_ (a':=?_) ?_ ?_
             rotate_left
             ·show Act.put _ (some 71) _ = _
              simp only [Act.put,sA,sZ,sS,i64_w,i32_w]
              rfl
             refine one_ (i:=29) (N:=some 72) #[tt,tt,tt,tt,tt,tt,tt,tt,tt,tt,tt,tt,tt,tt,tt,tt,tt,tt,tt,tt,tt,tt,tt,tt,tt,tt,tt,tt,tt,tt,ff,ff,ff,ff,ff,ff,ff,ff,ff,ff,ff,ff,ff,ff,ff,ff,ff,ff,ff,ff,ff,ff,ff,ff,ff,ff,ff,ff,ff,ff,ff,ff,ff] rfl rfl (one_of HT_.out (by kernel_rfl)) (by decide) (fun K hK=>?_)
             refine goes_ Tryz.func9 (by kernel_rfl) rfl #[.agg #[.bool t565,.slice Ao84 t566.length co84],.agg #[.bool t608,.slice Ao127 t609.length co127]] (by rfl) rfl rfl zl ?_
             with_reducible refine(whetstonelaw02_same.calls k t565 _ _ t566 t608 _ _ t609 true _ ?side1 ?side2 ?side3 ?side4 A27.out).mono ?_
             (case side1=>exact zC (Kd.V_reads' HO568.out).2.2)
             (case side2=>exact(Kd.V_reads' HO568.out).2.1)
             (case side3=>exact zC (Kd.V_reads' HO611.out).2.2)
             (case side4=>exact(Kd.V_reads' HO611.out).2.1)
             rintro e w128 ⟨rfl,hb⟩
             refine⟨_,rfl,?_⟩
             replace HO530:=vb HO530 hb
             replace HO534:=vb HO534 hb
             replace HO549:=vb HO549 hb
             replace HO553:=vb HO553 hb
             replace HO568:=vb HO568 hb
             replace HO572:=vb HO572 hb
             replace HO585:=vb HO585 hb
             replace HO591:=vb HO591 hb
             replace HO596:=vb HO596 hb
             replace HO601:=vb HO601 hb
             replace HO606:=vb HO606 hb
             replace HO611:=vb HO611 hb
             replace BK536:=kb BK536 hb
             replace BK537:=kb BK537 hb
             replace BK555:=kb BK555 hb
             replace BK556:=kb BK556 hb
             replace BK574:=kb BK574 hb
             replace BK575:=kb BK575 hb
             replace BK581:=kb BK581 hb
             replace BK587:=kb BK587 hb
             replace HB:=am (below_step zb hb)
             (try clear hb)
             (try clear hb2)
             (try clear hk)
             (try clear hi)
             refine hK.out _ _ ⟨(blk_cell BK536.out 0).trans rfl,(blk_cell BK536.out 1).trans rfl,(blk_cell BK537.out 0).trans rfl,(blk_cell BK537.out 1).trans rfl,(blk_cell BK555.out 0).trans rfl,(blk_cell BK555.out 1).trans rfl,(blk_cell BK556.out 0).trans rfl,(blk_cell BK556.out 1).trans rfl,(blk_cell BK574.out 0).trans rfl,(blk_cell BK574.out 1).trans rfl,(blk_cell BK575.out 0).trans rfl,(blk_cell BK575.out 1).trans rfl⟩ (fun hHeld=>?_)
             clear hK K
             refine norm_ (a':=?_) ?_ ?_
             rotate_left
             ·show Act.put _ (some 72) _ = _
              simp only [Act.put,sA,sZ,sS,i64_w,i32_w]
              rfl
             refine pu (i:=30) (N:=some 73) #[tt,tt,tt,tt,tt,tt,tt,tt,tt,tt,tt,tt,tt,tt,tt,tt,tt,tt,tt,tt,tt,tt,tt,tt,tt,tt,tt,tt,tt,tt,tt,ff,ff,ff,ff,ff,ff,ff,ff,ff,ff,ff,ff,ff,ff,ff,ff,ff,ff,ff,ff,ff,ff,ff,ff,ff,ff,ff,ff,ff,ff,ff,ff] (any_of HT_.out (by kernel_rfl)) ?_
             refine pu (i:=31) (N:=some 74) #[tt,tt,tt,tt,tt,tt,tt,tt,tt,tt,tt,tt,tt,tt,tt,tt,tt,tt,tt,tt,tt,tt,tt,tt,tt,tt,tt,tt,tt,tt,tt,tt,ff,ff,ff,ff,ff,ff,ff,ff,ff,ff,ff,ff,ff,ff,ff,ff,ff,ff,ff,ff,ff,ff,ff,ff,ff,ff,ff,ff,ff,ff,ff] (any_of HT_.out (by kernel_rfl)) ?_
             refine take_ (i:=32) (N:=some 75) (v:=?_) (a':=?_) #[tt,tt,tt,tt,tt,tt,tt,tt,tt,tt,tt,tt,tt,tt,tt,tt,tt,tt,tt,tt,tt,tt,tt,tt,tt,tt,tt,tt,tt,tt,tt,tt,tt,ff,ff,ff,ff,ff,ff,ff,ff,ff,ff,ff,ff,ff,ff,ff,ff,ff,ff,ff,ff,ff,ff,ff,ff,ff,ff,ff,ff,ff,ff] rfl rfl (take_ofW HT_.out HW_.out (by kernel_rfl)) (fun _ _ _ h=>h) (Or.inl ⟨by rfl,?_⟩) hHeld ?_ ?_
             rotate_left
             ·rintro w' ⟨s0,s1,s2,s3,s4,s5,s6,s7,s8,s9,s10,s11⟩
              go_simp
              with_reducible rfl
             rotate_left
             ·simp only [Act.put,sA,sZ,sS,i64_w,i32_w]
              rfl
             refine one_ (i:=33) (N:=some 76) #[tt,tt,tt,tt,tt,tt,tt,tt,tt,tt,tt,tt,tt,tt,tt,tt,tt,tt,tt,tt,tt,tt,tt,tt,tt,tt,tt,tt,tt,tt,tt,tt,tt,tt,ff,ff,ff,ff,ff,ff,ff,ff,ff,ff,ff,ff,ff,ff,ff,ff,ff,ff,ff,ff,ff,ff,ff,ff,ff,ff,ff,ff,ff] rfl rfl (one_of HT_.out (by kernel_rfl)) (by decide) (fun K hK=>?_)
             refine goes_ Tryz.func10 (by kernel_rfl) rfl #[.int .i64 (-1)] (by rfl) rfl rfl zl ?_
             with_reducible refine(num_Of.calls k (-1) t613 t614 _ A29.out).mono ?_
             rintro e w129 ⟨v615,rfl,ho0,hb⟩
             refine⟨_,rfl,?_⟩
             replace HO530:=vb HO530 hb
             replace HO534:=vb HO534 hb
             replace HO549:=vb HO549 hb
             replace HO553:=vb HO553 hb
             replace HO568:=vb HO568 hb
             replace HO572:=vb HO572 hb
             replace HO585:=vb HO585 hb
             replace HO591:=vb HO591 hb
             replace HO596:=vb HO596 hb
             replace HO601:=vb HO601 hb
             replace HO606:=vb HO606 hb
             replace HO611:=vb HO611 hb
             have HO616:=am (Kd.V_lower (Kd.V_mono (ok':=fun k_=>k_≠gb536∧k_≠gb537∧k_≠gb555∧k_≠gb556∧k_≠gb574∧k_≠gb575∧k_≠gb581∧k_≠gb587) ho0 (fun k_ hk_=>⟨(fb BK536 k_ hk_),(fb BK537 k_ hk_),(fb BK555 k_ hk_),(fb BK556 k_ hk_),(fb BK574 k_ hk_),(fb BK575 k_ hk_),(fb BK581 k_ hk_),(fb BK587 k_ hk_)⟩)) (below_size zb))
             replace BK536:=kb BK536 hb
             replace BK537:=kb BK537 hb
             replace BK555:=kb BK555 hb
             replace BK556:=kb BK556 hb
             replace BK574:=kb BK574 hb
             replace BK575:=kb BK575 hb
             replace BK581:=kb BK581 hb
             replace BK587:=kb BK587 hb
             replace HB:=am (below_step zb hb)
             (try clear hb)
             (try clear hb2)
             (try clear hk)
             (try clear hi)
             (try clear ho0)
             obtain⟨Ao130,co130,eo130⟩:=Kd.V_slice HO616.out
             (first | subst eo130 |(injection eo130 with f1_ f2_ f3_;have f4_:=f1_.symm;have f5_:=f3_.symm;clear f1_ f2_ f3_;subst f4_;subst f5_))
             refine hK.out _ _ ⟨(blk_cell BK536.out 0).trans rfl,(blk_cell BK536.out 1).trans rfl,(blk_cell BK537.out 0).trans rfl,(blk_cell BK537.out 1).trans rfl,(blk_cell BK555.out 0).trans rfl,(blk_cell BK555.out 1).trans rfl,(blk_cell BK556.out 0).trans rfl,(blk_cell BK556.out 1).trans rfl,(blk_cell BK574.out 0).trans rfl,(blk_cell BK574.out 1).trans rfl,(blk_cell BK575.out 0).trans rfl,(blk_cell BK575.out 1).trans rfl⟩ (fun hHeld=>?_)
             clear hK K
             refine norm_ (a':=?_) ?_ ?_
             rotate_left
             ·show Act.put _ (some 76) _ = _
              simp only [Act.put,sA,sZ,sS,i64_w,i32_w]
              rfl
             refine one_ (i:=34) (N:=some 77) #[tt,tt,tt,tt,tt,tt,tt,tt,tt,tt,tt,tt,tt,tt,tt,tt,tt,tt,tt,tt,tt,tt,tt,tt,tt,tt,tt,tt,tt,tt,tt,tt,tt,tt,tt,ff,ff,ff,ff,ff,ff,ff,ff,ff,ff,ff,ff,ff,ff,ff,ff,ff,ff,ff,ff,ff,ff,ff,ff,ff,ff,ff,ff] rfl rfl (one_of HT_.out (by kernel_rfl)) (by decide) (fun K hK=>?_)
             refine goes_ Tryz.func9 (by kernel_rfl) rfl #[.agg #[.bool t569,.slice Ao90 t570.length co90],.agg #[.bool t613,.slice Ao130 t614.length co130]] (by rfl) rfl rfl zl ?_
             with_reducible refine(whetstonelaw02_same.calls k t569 _ _ t570 t613 _ _ t614 true _ ?side1 ?side2 ?side3 ?side4 A30.out).mono ?_
             (case side1=>exact zC (Kd.V_reads' HO572.out).2.2)
             (case side2=>exact(Kd.V_reads' HO572.out).2.1)
             (case side3=>exact zC (Kd.V_reads' HO616.out).2.2)
             (case side4=>exact(Kd.V_reads' HO616.out).2.1)
             rintro e w131 ⟨rfl,hb⟩
             refine⟨_,rfl,?_⟩
             replace HO530:=vb HO530 hb
             replace HO534:=vb HO534 hb
             replace HO549:=vb HO549 hb
             replace HO553:=vb HO553 hb
             replace HO568:=vb HO568 hb
             replace HO572:=vb HO572 hb
             replace HO585:=vb HO585 hb
             replace HO591:=vb HO591 hb
             replace HO596:=vb HO596 hb
             replace HO601:=vb HO601 hb
             replace HO606:=vb HO606 hb
             replace HO611:=vb HO611 hb
             replace HO616:=vb HO616 hb
             replace BK536:=kb BK536 hb
             replace BK537:=kb BK537 hb
             replace BK555:=kb BK555 hb
             replace BK556:=kb BK556 hb
             replace BK574:=kb BK574 hb
             replace BK575:=kb BK575 hb
             replace BK581:=kb BK581 hb
             replace BK587:=kb BK587 hb
             replace HB:=am (below_step zb hb)
             (try clear hb)
             (try clear hb2)
             (try clear hk)
             (try clear hi)
             refine hK.out _ _ ⟨(blk_cell BK536.out 0).trans rfl,(blk_cell BK536.out 1).trans rfl,(blk_cell BK537.out 0).trans rfl,(blk_cell BK537.out 1).trans rfl,(blk_cell BK555.out 0).trans rfl,(blk_cell BK555.out 1).trans rfl,(blk_cell BK556.out 0).trans rfl,(blk_cell BK556.out 1).trans rfl,(blk_cell BK574.out 0).trans rfl,(blk_cell BK574.out 1).trans rfl,(blk_cell BK575.out 0).trans rfl,(blk_cell BK575.out 1).trans rfl⟩ (fun hHeld=>?_)
             clear hK K
             refine norm_ (a':=?_) ?_ ?_
             rotate_left
             ·show Act.put _ (some 77) _ = _
              simp only [Act.put,sA,sZ,sS,i64_w,i32_w]
              rfl
             refine pu (i:=35) (N:=some 78) #[tt,tt,tt,tt,tt,tt,tt,tt,tt,tt,tt,tt,tt,tt,tt,tt,tt,tt,tt,tt,tt,tt,tt,tt,tt,tt,tt,tt,tt,tt,tt,tt,tt,tt,tt,tt,ff,ff,ff,ff,ff,ff,ff,ff,ff,ff,ff,ff,ff,ff,ff,ff,ff,ff,ff,ff,ff,ff,ff,ff,ff,ff,ff] (any_of HT_.out (by kernel_rfl)) ?_
             refine pu (i:=36) (N:=some 79) #[tt,tt,tt,tt,tt,tt,tt,tt,tt,tt,tt,tt,tt,tt,tt,tt,tt,tt,tt,tt,tt,tt,tt,tt,tt,tt,tt,tt,tt,tt,tt,tt,tt,tt,tt,tt,tt,ff,ff,ff,ff,ff,ff,ff,ff,ff,ff,ff,ff,ff,ff,ff,ff,ff,ff,ff,ff,ff,ff,ff,ff,ff,ff] (any_of HT_.out (by kernel_rfl)) ?_
             refine pu (i:=37) (N:=some 80) #[tt,tt,tt,tt,tt,tt,tt,tt,tt,tt,tt,tt,tt,tt,tt,tt,tt,tt,tt,tt,tt,tt,tt,tt,tt,tt,tt,tt,tt,tt,tt,tt,tt,tt,tt,tt,tt,tt,ff,ff,ff,ff,ff,ff,ff,ff,ff,ff,ff,ff,ff,ff,ff,ff,ff,ff,ff,ff,ff,ff,ff,ff,ff] (any_of HT_.out (by kernel_rfl)) ?_
             refine pu (i:=38) (N:=some 81) #[tt,tt,tt,tt,tt,tt,tt,tt,tt,tt,tt,tt,tt,tt,tt,tt,tt,tt,tt,tt,tt,tt,tt,tt,tt,tt,tt,tt,tt,tt,tt,tt,tt,tt,tt,tt,tt,tt,tt,ff,ff,ff,ff,ff,ff,ff,ff,ff,ff,ff,ff,ff,ff,ff,ff,ff,ff,ff,ff,ff,ff,ff,ff] (any_of HT_.out (by kernel_rfl)) ?_
             refine pu (i:=39) (N:=some 82) #[tt,tt,tt,tt,tt,tt,tt,tt,tt,tt,tt,tt,tt,tt,tt,tt,tt,tt,tt,tt,tt,tt,tt,tt,tt,tt,tt,tt,tt,tt,tt,tt,tt,tt,tt,tt,tt,tt,tt,tt,ff,ff,ff,ff,ff,ff,ff,ff,ff,ff,ff,ff,ff,ff,ff,ff,ff,ff,ff,ff,ff,ff,ff] (any_of HT_.out (by kernel_rfl)) ?_
             refine pu (i:=40) (N:=some 83) #[tt,tt,tt,tt,tt,tt,tt,tt,tt,tt,tt,tt,tt,tt,tt,tt,tt,tt,tt,tt,tt,tt,tt,tt,tt,tt,tt,tt,tt,tt,tt,tt,tt,tt,tt,tt,tt,tt,tt,tt,tt,ff,ff,ff,ff,ff,ff,ff,ff,ff,ff,ff,ff,ff,ff,ff,ff,ff,ff,ff,ff,ff,ff] (any_of HT_.out (by kernel_rfl)) ?_
             refine one_ (i:=41) (N:=some 84) #[tt,tt,tt,tt,tt,tt,tt,tt,tt,tt,tt,tt,tt,tt,tt,tt,tt,tt,tt,tt,tt,tt,tt,tt,tt,tt,tt,tt,tt,tt,tt,tt,tt,tt,tt,tt,tt,tt,tt,tt,tt,tt,ff,ff,ff,ff,ff,ff,ff,ff,ff,ff,ff,ff,ff,ff,ff,ff,ff,ff,ff,ff,ff] rfl rfl (one_of HT_.out (by kernel_rfl)) (by decide) (fun K hK=>?_)
             refine goes_ Tryz.func10 (by kernel_rfl) rfl #[.int .i64 (-4)] (by rfl) rfl rfl zl ?_
             with_reducible refine(num_Of.calls k (-4) t618 t619 _ A33.out).mono ?_
             rintro e w132 ⟨v620,rfl,ho0,hb⟩
             refine⟨_,rfl,?_⟩
             replace HO530:=vb HO530 hb
             replace HO534:=vb HO534 hb
             replace HO549:=vb HO549 hb
             replace HO553:=vb HO553 hb
             replace HO568:=vb HO568 hb
             replace HO572:=vb HO572 hb
             replace HO585:=vb HO585 hb
             replace HO591:=vb HO591 hb
             replace HO596:=vb HO596 hb
             replace HO601:=vb HO601 hb
             replace HO606:=vb HO606 hb
             replace HO611:=vb HO611 hb
             replace HO616:=vb HO616 hb
             have HO621:=am (Kd.V_lower (Kd.V_mono (ok':=fun k_=>k_≠gb536∧k_≠gb537∧k_≠gb555∧k_≠gb556∧k_≠gb574∧k_≠gb575∧k_≠gb581∧k_≠gb587) ho0 (fun k_ hk_=>⟨(fb BK536 k_ hk_),(fb BK537 k_ hk_),(fb BK555 k_ hk_),(fb BK556 k_ hk_),(fb BK574 k_ hk_),(fb BK575 k_ hk_),(fb BK581 k_ hk_),(fb BK587 k_ hk_)⟩)) (below_size zb))
             replace BK536:=kb BK536 hb
             replace BK537:=kb BK537 hb
             replace BK555:=kb BK555 hb
             replace BK556:=kb BK556 hb
             replace BK574:=kb BK574 hb
             replace BK575:=kb BK575 hb
             replace BK581:=kb BK581 hb
             replace BK587:=kb BK587 hb
             replace HB:=am (below_step zb hb)
             (try clear hb)
             (try clear hb2)
             (try clear hk)
             (try clear hi)
             (try clear ho0)
             refine hK.out _ _ ⟨(blk_cell BK536.out 0).trans rfl,(blk_cell BK536.out 1).trans rfl,(blk_cell BK537.out 0).trans rfl,(blk_cell BK537.out 1).trans rfl,(blk_cell BK555.out 0).trans rfl,(blk_cell BK555.out 1).trans rfl,(blk_cell BK556.out 0).trans rfl,(blk_cell BK556.out 1).trans rfl,(blk_cell BK574.out 0).trans rfl,(blk_cell BK574.out 1).trans rfl,(blk_cell BK575.out 0).trans rfl,(blk_cell BK575.out 1).trans rfl⟩ (fun hHeld=>?_)
             clear hK K
             refine norm_ (a':=?_) ?_ ?_
             rotate_left
             ·show Act.put _ (some 84) _ = _
              simp only [Act.put,sA,sZ,sS,i64_w,i32_w]
              rfl
             refine one_ (i:=42) (N:=some 85) #[tt,tt,tt,tt,tt,tt,tt,tt,tt,tt,tt,tt,tt,tt,tt,tt,tt,tt,tt,tt,tt,tt,tt,tt,tt,tt,tt,tt,tt,tt,tt,tt,tt,tt,tt,tt,tt,tt,tt,tt,tt,tt,tt,ff,ff,ff,ff,ff,ff,ff,ff,ff,ff,ff,ff,ff,ff,ff,ff,ff,ff,ff,ff] rfl rfl (one_of HT_.out (by kernel_rfl)) (by decide) (fun K hK=>?_)
             refine goes_ Tryz.func10 (by kernel_rfl) rfl #[.int .i64 6] (by rfl) rfl rfl zl ?_
             with_reducible refine(num_Of.calls k 6 t622 t623 _ A34.out).mono ?_
             rintro e w133 ⟨v624,rfl,ho0,hb⟩
             refine⟨_,rfl,?_⟩
             replace HO530:=vb HO530 hb
             replace HO534:=vb HO534 hb
             replace HO549:=vb HO549 hb
             replace HO553:=vb HO553 hb
             replace HO568:=vb HO568 hb
             replace HO572:=vb HO572 hb
             replace HO585:=vb HO585 hb
             replace HO591:=vb HO591 hb
             replace HO596:=vb HO596 hb
             replace HO601:=vb HO601 hb
             replace HO606:=vb HO606 hb
             replace HO611:=vb HO611 hb
             replace HO616:=vb HO616 hb
             replace HO621:=vb HO621 hb
             have HO625:=am (Kd.V_lower (Kd.V_mono (ok':=fun k_=>k_≠gb536∧k_≠gb537∧k_≠gb555∧k_≠gb556∧k_≠gb574∧k_≠gb575∧k_≠gb581∧k_≠gb587) ho0 (fun k_ hk_=>⟨(fb BK536 k_ hk_),(fb BK537 k_ hk_),(fb BK555 k_ hk_),(fb BK556 k_ hk_),(fb BK574 k_ hk_),(fb BK575 k_ hk_),(fb BK581 k_ hk_),(fb BK587 k_ hk_)⟩)) (below_size zb))
             replace BK536:=kb BK536 hb
             replace BK537:=kb BK537 hb
             replace BK555:=kb BK555 hb
             replace BK556:=kb BK556 hb
             replace BK574:=kb BK574 hb
             replace BK575:=kb BK575 hb
             replace BK581:=kb BK581 hb
             replace BK587:=kb BK587 hb
             replace HB:=am (below_step zb hb)
             (try clear hb)
             (try clear hb2)
             (try clear hk)
             (try clear hi)
             (try clear ho0)
             refine hK.out _ _ ⟨(blk_cell BK536.out 0).trans rfl,(blk_cell BK536.out 1).trans rfl,(blk_cell BK537.out 0).trans rfl,(blk_cell BK537.out 1).trans rfl,(blk_cell BK555.out 0).trans rfl,(blk_cell BK555.out 1).trans rfl,(blk_cell BK556.out 0).trans rfl,(blk_cell BK556.out 1).trans rfl,(blk_cell BK574.out 0).trans rfl,(blk_cell BK574.out 1).trans rfl,(blk_cell BK575.out 0).trans rfl,(blk_cell BK575.out 1).trans rfl⟩ (fun hHeld=>?_)
             clear hK K
             refine norm_ (a':=?_) ?_ ?_
             rotate_left
             ·show Act.put _ (some 85) _ = _
              simp only [Act.put,sA,sZ,sS,i64_w,i32_w]
              rfl
             refine one_ (i:=43) (N:=some 86) #[tt,tt,tt,tt,tt,tt,tt,tt,tt,tt,tt,tt,tt,tt,tt,tt,tt,tt,tt,tt,tt,tt,tt,tt,tt,tt,tt,tt,tt,tt,tt,tt,tt,tt,tt,tt,tt,tt,tt,tt,tt,tt,tt,tt,ff,ff,ff,ff,ff,ff,ff,ff,ff,ff,ff,ff,ff,ff,ff,ff,ff,ff,ff] rfl rfl (one_of HT_.out (by kernel_rfl)) (by decide) (fun K hK=>?_)
             refine goes_ Tryz.func10 (by kernel_rfl) rfl #[.int .i64 0] (by rfl) rfl rfl zl ?_
             with_reducible refine(num_Of.calls k 0 t626 t627 _ A35.out).mono ?_
             rintro e w134 ⟨v628,rfl,ho0,hb⟩
             refine⟨_,rfl,?_⟩
             replace HO530:=vb HO530 hb
             replace HO534:=vb HO534 hb
             replace HO549:=vb HO549 hb
             replace HO553:=vb HO553 hb
             replace HO568:=vb HO568 hb
             replace HO572:=vb HO572 hb
             replace HO585:=vb HO585 hb
             replace HO591:=vb HO591 hb
             replace HO596:=vb HO596 hb
             replace HO601:=vb HO601 hb
             replace HO606:=vb HO606 hb
             replace HO611:=vb HO611 hb
             replace HO616:=vb HO616 hb
             replace HO621:=vb HO621 hb
             replace HO625:=vb HO625 hb
             have HO629:=am (Kd.V_lower (Kd.V_mono (ok':=fun k_=>k_≠gb536∧k_≠gb537∧k_≠gb555∧k_≠gb556∧k_≠gb574∧k_≠gb575∧k_≠gb581∧k_≠gb587) ho0 (fun k_ hk_=>⟨(fb BK536 k_ hk_),(fb BK537 k_ hk_),(fb BK555 k_ hk_),(fb BK556 k_ hk_),(fb BK574 k_ hk_),(fb BK575 k_ hk_),(fb BK581 k_ hk_),(fb BK587 k_ hk_)⟩)) (below_size zb))
             replace BK536:=kb BK536 hb
             replace BK537:=kb BK537 hb
             replace BK555:=kb BK555 hb
             replace BK556:=kb BK556 hb
             replace BK574:=kb BK574 hb
             replace BK575:=kb BK575 hb
             replace BK581:=kb BK581 hb
             replace BK587:=kb BK587 hb
             replace HB:=am (below_step zb hb)
             (try clear hb)
             (try clear hb2)
             (try clear hk)
             (try clear hi)
             (try clear ho0)
             obtain⟨Ao135,co135,eo135⟩:=Kd.V_slice HO621.out
             (first | subst eo135 |(injection eo135 with f1_ f2_ f3_;have f4_:=f1_.symm;have f5_:=f3_.symm;clear f1_ f2_ f3_;subst f4_;subst f5_))
             obtain⟨Ao136,co136,eo136⟩:=Kd.V_slice HO625.out
             (first | subst eo136 |(injection eo136 with f1_ f2_ f3_;have f4_:=f1_.symm;have f5_:=f3_.symm;clear f1_ f2_ f3_;subst f4_;subst f5_))
             obtain⟨Ao137,co137,eo137⟩:=Kd.V_slice HO629.out
             (first | subst eo137 |(injection eo137 with f1_ f2_ f3_;have f4_:=f1_.symm;have f5_:=f3_.symm;clear f1_ f2_ f3_;subst f4_;subst f5_))
             refine hK.out _ _ ⟨(blk_cell BK536.out 0).trans rfl,(blk_cell BK536.out 1).trans rfl,(blk_cell BK537.out 0).trans rfl,(blk_cell BK537.out 1).trans rfl,(blk_cell BK555.out 0).trans rfl,(blk_cell BK555.out 1).trans rfl,(blk_cell BK556.out 0).trans rfl,(blk_cell BK556.out 1).trans rfl,(blk_cell BK574.out 0).trans rfl,(blk_cell BK574.out 1).trans rfl,(blk_cell BK575.out 0).trans rfl,(blk_cell BK575.out 1).trans rfl⟩ (fun hHeld=>?_)
             clear hK K
             refine norm_ (a':=?_) ?_ ?_
             rotate_left
             ·show Act.put _ (some 86) _ = _
              simp only [Act.put,sA,sZ,sS,i64_w,i32_w]
              rfl
             refine one_ (i:=44) (N:=some 87) #[tt,tt,tt,tt,tt,tt,tt,tt,tt,tt,tt,tt,tt,tt,tt,tt,tt,tt,tt,tt,tt,tt,tt,tt,tt,tt,tt,tt,tt,tt,tt,tt,tt,tt,tt,tt,tt,tt,tt,tt,tt,tt,tt,tt,tt,ff,ff,ff,ff,ff,ff,ff,ff,ff,ff,ff,ff,ff,ff,ff,ff,ff,ff] rfl rfl (one_of HT_.out (by kernel_rfl)) (by decide) (fun K hK=>?_)
             refine Kd.N_lit_step k25 _ 25 ?hg (N':=87) ?hd (xs:=([(⟨t618,t619⟩ : S25),(⟨t622,t623⟩ : S25),(⟨t626,t627⟩ : S25)] : List (S25))) (inner:=[.bool t618,.slice Ao135 t619.length co135,.bool t622,.slice Ao136 t623.length co136,.bool t626,.slice Ao137 t627.length co137]) (ok:=(fun k_=>k_≠gb536∧k_≠gb537∧k_≠gb555∧k_≠gb556∧k_≠gb574∧k_≠gb575∧k_≠gb581∧k_≠gb587)) (okp:=(fun k_=>k_≠gb536∧k_≠gb537∧k_≠gb555∧k_≠gb556∧k_≠gb574∧k_≠gb575∧k_≠gb581∧k_≠gb587)) ?hr ?hp (fun _ hk=>hk) ((show ∀ k_,w134.heap.size≤k_→(fun k_=>k_≠gb536∧k_≠gb537∧k_≠gb555∧k_≠gb556∧k_≠gb574∧k_≠gb575∧k_≠gb581∧k_≠gb587) k_ from fun k_ hk=>⟨fb BK536 k_ hk,fb BK537 k_ hk,fb BK555 k_ hk,fb BK556 k_ hk,fb BK574 k_ hk,fb BK575 k_ hk,fb BK581 k_ hk,fb BK587 k_ hk⟩) _ (Nat.le_refl _)) (Below.refl _ _) (Nat.le_refl _) (by simp) ?_;(case hd=>rfl);(case hg=>rfl);(case hr=>exact zh);(case hp=>exact(Reps.c2 (show Kd.FK k25 _ _ (⟨t618,t619⟩ : S25) [.bool t618,.slice Ao135 t619.length co135] from(k25_mkF _ _ (⟨t618,t619⟩ : S25) (Kd.V_reads' (Kd.V_mono (ok':=(fun k_=>k_≠gb536∧k_≠gb537∧k_≠gb555∧k_≠gb556∧k_≠gb574∧k_≠gb575∧k_≠gb581∧k_≠gb587)) ((by first | exact HO621.out |(refine zV ?_;exact HO621.out))) (fun k_ hk=>by first | exact⟨hk.1,⟨hk.2.1,⟨hk.2.2.1,⟨hk.2.2.2.1,⟨hk.2.2.2.2.1,⟨hk.2.2.2.2.2.1,⟨hk.2.2.2.2.2.2.1,hk.2.2.2.2.2.2.2⟩⟩⟩⟩⟩⟩⟩ | exact hk | exact zD hk))).2.1 (Kd.V_F (Kd.V_mono (ok':=(fun k_=>k_≠gb536∧k_≠gb537∧k_≠gb555∧k_≠gb556∧k_≠gb574∧k_≠gb575∧k_≠gb581∧k_≠gb587)) ((by first | exact HO621.out |(refine zV ?_;exact HO621.out))) (fun k_ hk=>by first | exact⟨hk.1,⟨hk.2.1,⟨hk.2.2.1,⟨hk.2.2.2.1,⟨hk.2.2.2.2.1,⟨hk.2.2.2.2.2.1,⟨hk.2.2.2.2.2.2.1,hk.2.2.2.2.2.2.2⟩⟩⟩⟩⟩⟩⟩ | exact hk | exact zD hk))))) (Reps.c2 (show Kd.FK k25 _ _ (⟨t622,t623⟩ : S25) [.bool t622,.slice Ao136 t623.length co136] from(k25_mkF _ _ (⟨t622,t623⟩ : S25) (Kd.V_reads' (Kd.V_mono (ok':=(fun k_=>k_≠gb536∧k_≠gb537∧k_≠gb555∧k_≠gb556∧k_≠gb574∧k_≠gb575∧k_≠gb581∧k_≠gb587)) ((by first | exact HO625.out |(refine zV ?_;exact HO625.out))) (fun k_ hk=>by first | exact⟨hk.1,⟨hk.2.1,⟨hk.2.2.1,⟨hk.2.2.2.1,⟨hk.2.2.2.2.1,⟨hk.2.2.2.2.2.1,⟨hk.2.2.2.2.2.2.1,hk.2.2.2.2.2.2.2⟩⟩⟩⟩⟩⟩⟩ | exact hk | exact zD hk))).2.1 (Kd.V_F (Kd.V_mono (ok':=(fun k_=>k_≠gb536∧k_≠gb537∧k_≠gb555∧k_≠gb556∧k_≠gb574∧k_≠gb575∧k_≠gb581∧k_≠gb587)) ((by first | exact HO625.out |(refine zV ?_;exact HO625.out))) (fun k_ hk=>by first | exact⟨hk.1,⟨hk.2.1,⟨hk.2.2.1,⟨hk.2.2.2.1,⟨hk.2.2.2.2.1,⟨hk.2.2.2.2.2.1,⟨hk.2.2.2.2.2.2.1,hk.2.2.2.2.2.2.2⟩⟩⟩⟩⟩⟩⟩ | exact hk | exact zD hk))))) (Reps.c2 (show Kd.FK k25 _ _ (⟨t626,t627⟩ : S25) [.bool t626,.slice Ao137 t627.length co137] from(k25_mkF _ _ (⟨t626,t627⟩ : S25) (Kd.V_reads' (Kd.V_mono (ok':=(fun k_=>k_≠gb536∧k_≠gb537∧k_≠gb555∧k_≠gb556∧k_≠gb574∧k_≠gb575∧k_≠gb581∧k_≠gb587)) ((by first | exact HO629.out |(refine zV ?_;exact HO629.out))) (fun k_ hk=>by first | exact⟨hk.1,⟨hk.2.1,⟨hk.2.2.1,⟨hk.2.2.2.1,⟨hk.2.2.2.2.1,⟨hk.2.2.2.2.2.1,⟨hk.2.2.2.2.2.2.1,hk.2.2.2.2.2.2.2⟩⟩⟩⟩⟩⟩⟩ | exact hk | exact zD hk))).2.1 (Kd.V_F (Kd.V_mono (ok':=(fun k_=>k_≠gb536∧k_≠gb537∧k_≠gb555∧k_≠gb556∧k_≠gb574∧k_≠gb575∧k_≠gb581∧k_≠gb587)) ((by first | exact HO629.out |(refine zV ?_;exact HO629.out))) (fun k_ hk=>by first | exact⟨hk.1,⟨hk.2.1,⟨hk.2.2.1,⟨hk.2.2.2.1,⟨hk.2.2.2.2.1,⟨hk.2.2.2.2.2.1,⟨hk.2.2.2.2.2.2.1,hk.2.2.2.2.2.2.2⟩⟩⟩⟩⟩⟩⟩ | exact hk | exact zD hk))))) (Reps.none _ _)))))
             intro v631 w138 ho139 hb hg_ hnew_
             clear hg_ hnew_
             (first | rw [← Ny630.out] at ho139 |(simp only [Int.reduceToNat] at ho139;rw [← Ny630.out] at ho139))
             replace HO530:=ve HO530 (Kd.N_base ho139) hb
             replace HO534:=ve HO534 (Kd.N_base ho139) hb
             replace HO549:=ve HO549 (Kd.N_base ho139) hb
             replace HO553:=ve HO553 (Kd.N_base ho139) hb
             replace HO568:=ve HO568 (Kd.N_base ho139) hb
             replace HO572:=ve HO572 (Kd.N_base ho139) hb
             replace HO585:=ve HO585 (Kd.N_base ho139) hb
             replace HO591:=ve HO591 (Kd.N_base ho139) hb
             replace HO596:=ve HO596 (Kd.N_base ho139) hb
             replace HO601:=ve HO601 (Kd.N_base ho139) hb
             replace HO606:=ve HO606 (Kd.N_base ho139) hb
             replace HO611:=ve HO611 (Kd.N_base ho139) hb
             replace HO616:=ve HO616 (Kd.N_base ho139) hb
             replace HO621:=ve HO621 (Kd.N_base ho139) hb
             replace HO625:=ve HO625 (Kd.N_base ho139) hb
             replace HO629:=ve HO629 (Kd.N_base ho139) hb
             have HO632:=am (Kd.N_lower ho139 (below_size zb))
             replace BK536:=kb BK536 hb
             replace BK537:=kb BK537 hb
             replace BK555:=kb BK555 hb
             replace BK556:=kb BK556 hb
             replace BK574:=kb BK574 hb
             replace BK575:=kb BK575 hb
             replace BK581:=kb BK581 hb
             replace BK587:=kb BK587 hb
             replace HB:=am (below_step zb hb)
             clear hb ho139
             obtain⟨Ao140,co140,eo140⟩:=Kd.N_slice HO632.out
             (first | subst eo140 |(injection eo140 with f1_ f2_ f3_;have f4_:=f1_.symm;have f5_:=f3_.symm;clear f1_ f2_ f3_;subst f4_;subst f5_))
             refine hK.out _ _ ⟨(blk_cell BK536.out 0).trans rfl,(blk_cell BK536.out 1).trans rfl,(blk_cell BK537.out 0).trans rfl,(blk_cell BK537.out 1).trans rfl,(blk_cell BK555.out 0).trans rfl,(blk_cell BK555.out 1).trans rfl,(blk_cell BK556.out 0).trans rfl,(blk_cell BK556.out 1).trans rfl,(blk_cell BK574.out 0).trans rfl,(blk_cell BK574.out 1).trans rfl,(blk_cell BK575.out 0).trans rfl,(blk_cell BK575.out 1).trans rfl⟩ (fun hHeld=>?_)
             clear hK K
             refine norm_ (a':=?_) ?_ ?_
             rotate_left
             ·show Act.put _ (some 87) _ = _
              simp only [Act.put,sA,sZ,sS,i64_w,i32_w]
              rfl
             refine one_ (i:=45) (N:=some 88) #[tt,tt,tt,tt,tt,tt,tt,tt,tt,tt,tt,tt,tt,tt,tt,tt,tt,tt,tt,tt,tt,tt,tt,tt,tt,tt,tt,tt,tt,tt,tt,tt,tt,tt,tt,tt,tt,tt,tt,tt,tt,tt,tt,tt,tt,tt,ff,ff,ff,ff,ff,ff,ff,ff,ff,ff,ff,ff,ff,ff,ff,ff,ff] rfl rfl (one_of HT_.out (by kernel_rfl)) (by decide) (fun K hK=>?_)
             refine goes_ Tryz.func18 (by kernel_rfl) rfl #[.slice Ao140 y630.length co140] (by rfl) rfl rfl zl ?_
             with_reducible refine(num_Gcd.calls k _ _ y630 t633 t634 _ ?side1 ?side2 A36.out).mono ?_
             (case side1=>exact zC (Kd.N_reads' HO632.out).2.2)
             (case side2=>exact(Kd.N_reads' HO632.out).2.1)
             rintro e w141 ⟨v635,rfl,ho0,hb⟩
             refine⟨_,rfl,?_⟩
             replace HO530:=vb HO530 hb
             replace HO534:=vb HO534 hb
             replace HO549:=vb HO549 hb
             replace HO553:=vb HO553 hb
             replace HO568:=vb HO568 hb
             replace HO572:=vb HO572 hb
             replace HO585:=vb HO585 hb
             replace HO591:=vb HO591 hb
             replace HO596:=vb HO596 hb
             replace HO601:=vb HO601 hb
             replace HO606:=vb HO606 hb
             replace HO611:=vb HO611 hb
             replace HO616:=vb HO616 hb
             replace HO621:=vb HO621 hb
             replace HO625:=vb HO625 hb
             replace HO629:=vb HO629 hb
             have HO636:=am (Kd.V_lower (Kd.V_mono (ok':=fun k_=>some k_≠(.slice Ao140 y630.length co140 : Value).ownBlock∧k_≠gb536∧k_≠gb537∧k_≠gb555∧k_≠gb556∧k_≠gb574∧k_≠gb575∧k_≠gb581∧k_≠gb587) ho0 (fun k_ hk_=>⟨(Kd.fresh' (Kd.N_lt (zN HO632.out)) k_ hk_),(fb BK536 k_ hk_),(fb BK537 k_ hk_),(fb BK555 k_ hk_),(fb BK556 k_ hk_),(fb BK574 k_ hk_),(fb BK575 k_ hk_),(fb BK581 k_ hk_),(fb BK587 k_ hk_)⟩)) (below_size zb))
             replace HO632:=nb HO632 hb
             replace BK536:=kb BK536 hb
             replace BK537:=kb BK537 hb
             replace BK555:=kb BK555 hb
             replace BK556:=kb BK556 hb
             replace BK574:=kb BK574 hb
             replace BK575:=kb BK575 hb
             replace BK581:=kb BK581 hb
             replace BK587:=kb BK587 hb
             replace HB:=am (below_step zb hb)
             (try clear hb)
             (try clear hb2)
             (try clear hk)
             (try clear hi)
             (try clear ho0)
             refine hK.out _ _ ⟨(blk_cell BK536.out 0).trans rfl,(blk_cell BK536.out 1).trans rfl,(blk_cell BK537.out 0).trans rfl,(blk_cell BK537.out 1).trans rfl,(blk_cell BK555.out 0).trans rfl,(blk_cell BK555.out 1).trans rfl,(blk_cell BK556.out 0).trans rfl,(blk_cell BK556.out 1).trans rfl,(blk_cell BK574.out 0).trans rfl,(blk_cell BK574.out 1).trans rfl,(blk_cell BK575.out 0).trans rfl,(blk_cell BK575.out 1).trans rfl⟩ (fun hHeld=>?_)
             clear hK K
             refine norm_ (a':=?_) ?_ ?_
             rotate_left
             ·show Act.put _ (some 88) _ = _
              simp only [Act.put,sA,sZ,sS,i64_w,i32_w]
              rfl
             refine one_ (i:=46) (N:=some 89) #[tt,tt,tt,tt,tt,tt,tt,tt,tt,tt,tt,tt,tt,tt,tt,tt,tt,tt,tt,tt,tt,tt,tt,tt,tt,tt,tt,tt,tt,tt,tt,tt,tt,tt,tt,tt,tt,tt,tt,tt,tt,tt,tt,tt,tt,tt,tt,ff,ff,ff,ff,ff,ff,ff,ff,ff,ff,ff,ff,ff,ff,ff,ff] rfl rfl (one_of HT_.out (by kernel_rfl)) (by decide) (fun K hK=>?_)
             refine goes_ Tryz.func10 (by kernel_rfl) rfl #[.int .i64 2] (by rfl) rfl rfl zl ?_
             with_reducible refine(num_Of.calls k 2 t637 t638 _ A37.out).mono ?_
             rintro e w142 ⟨v639,rfl,ho0,hb⟩
             refine⟨_,rfl,?_⟩
             replace HO530:=vb HO530 hb
             replace HO534:=vb HO534 hb
             replace HO549:=vb HO549 hb
             replace HO553:=vb HO553 hb
             replace HO568:=vb HO568 hb
             replace HO572:=vb HO572 hb
             replace HO585:=vb HO585 hb
             replace HO591:=vb HO591 hb
             replace HO596:=vb HO596 hb
             replace HO601:=vb HO601 hb
             replace HO606:=vb HO606 hb
             replace HO611:=vb HO611 hb
             replace HO616:=vb HO616 hb
             replace HO621:=vb HO621 hb
             replace HO625:=vb HO625 hb
             replace HO629:=vb HO629 hb
             replace HO636:=vb HO636 hb
             have HO640:=am (Kd.V_lower (Kd.V_mono (ok':=fun k_=>some k_≠(.slice Ao140 y630.length co140 : Value).ownBlock∧k_≠gb536∧k_≠gb537∧k_≠gb555∧k_≠gb556∧k_≠gb574∧k_≠gb575∧k_≠gb581∧k_≠gb587) ho0 (fun k_ hk_=>⟨(Kd.fresh' (Kd.N_lt (zN HO632.out)) k_ hk_),(fb BK536 k_ hk_),(fb BK537 k_ hk_),(fb BK555 k_ hk_),(fb BK556 k_ hk_),(fb BK574 k_ hk_),(fb BK575 k_ hk_),(fb BK581 k_ hk_),(fb BK587 k_ hk_)⟩)) (below_size zb))
             replace HO632:=nb HO632 hb
             replace BK536:=kb BK536 hb
             replace BK537:=kb BK537 hb
             replace BK555:=kb BK555 hb
             replace BK556:=kb BK556 hb
             replace BK574:=kb BK574 hb
             replace BK575:=kb BK575 hb
             replace BK581:=kb BK581 hb
             replace BK587:=kb BK587 hb
             replace HB:=am (below_step zb hb)
             (try clear hb)
             (try clear hb2)
             (try clear hk)
             (try clear hi)
             (try clear ho0)
             obtain⟨Ao143,co143,eo143⟩:=Kd.V_slice HO636.out
             (first | subst eo143 |(injection eo143 with f1_ f2_ f3_;have f4_:=f1_.symm;have f5_:=f3_.symm;clear f1_ f2_ f3_;subst f4_;subst f5_))
             obtain⟨Ao144,co144,eo144⟩:=Kd.V_slice HO640.out
             (first | subst eo144 |(injection eo144 with f1_ f2_ f3_;have f4_:=f1_.symm;have f5_:=f3_.symm;clear f1_ f2_ f3_;subst f4_;subst f5_))
             refine hK.out _ _ ⟨(blk_cell BK536.out 0).trans rfl,(blk_cell BK536.out 1).trans rfl,(blk_cell BK537.out 0).trans rfl,(blk_cell BK537.out 1).trans rfl,(blk_cell BK555.out 0).trans rfl,(blk_cell BK555.out 1).trans rfl,(blk_cell BK556.out 0).trans rfl,(blk_cell BK556.out 1).trans rfl,(blk_cell BK574.out 0).trans rfl,(blk_cell BK574.out 1).trans rfl,(blk_cell BK575.out 0).trans rfl,(blk_cell BK575.out 1).trans rfl⟩ (fun hHeld=>?_)
             clear hK K
             refine norm_ (a':=?_) ?_ ?_
             rotate_left
             ·show Act.put _ (some 89) _ = _
              simp only [Act.put,sA,sZ,sS,i64_w,i32_w]
              rfl
             refine one_ (i:=47) (N:=some 90) #[tt,tt,tt,tt,tt,tt,tt,tt,tt,tt,tt,tt,tt,tt,tt,tt,tt,tt,tt,tt,tt,tt,tt,tt,tt,tt,tt,tt,tt,tt,tt,tt,tt,tt,tt,tt,tt,tt,tt,tt,tt,tt,tt,tt,tt,tt,tt,tt,ff,ff,ff,ff,ff,ff,ff,ff,ff,ff,ff,ff,ff,ff,ff] rfl rfl (one_of HT_.out (by kernel_rfl)) (by decide) (fun K hK=>?_)
             refine goes_ Tryz.func9 (by kernel_rfl) rfl #[.agg #[.bool t633,.slice Ao143 t634.length co143],.agg #[.bool t637,.slice Ao144 t638.length co144]] (by rfl) rfl rfl zl ?_
             with_reducible refine(whetstonelaw02_same.calls k t633 _ _ t634 t637 _ _ t638 true _ ?side1 ?side2 ?side3 ?side4 A38.out).mono ?_
             (case side1=>exact zC (Kd.V_reads' HO636.out).2.2)
             (case side2=>exact(Kd.V_reads' HO636.out).2.1)
             (case side3=>exact zC (Kd.V_reads' HO640.out).2.2)
             (case side4=>exact(Kd.V_reads' HO640.out).2.1)
             rintro e w145 ⟨rfl,hb⟩
             refine⟨_,rfl,?_⟩
             replace HO530:=vb HO530 hb
             replace HO534:=vb HO534 hb
             replace HO549:=vb HO549 hb
             replace HO553:=vb HO553 hb
             replace HO568:=vb HO568 hb
             replace HO572:=vb HO572 hb
             replace HO585:=vb HO585 hb
             replace HO591:=vb HO591 hb
             replace HO596:=vb HO596 hb
             replace HO601:=vb HO601 hb
             replace HO606:=vb HO606 hb
             replace HO611:=vb HO611 hb
             replace HO616:=vb HO616 hb
             replace HO621:=vb HO621 hb
             replace HO625:=vb HO625 hb
             replace HO629:=vb HO629 hb
             replace HO632:=nb HO632 hb
             replace HO636:=vb HO636 hb
             replace HO640:=vb HO640 hb
             replace BK536:=kb BK536 hb
             replace BK537:=kb BK537 hb
             replace BK555:=kb BK555 hb
             replace BK556:=kb BK556 hb
             replace BK574:=kb BK574 hb
             replace BK575:=kb BK575 hb
             replace BK581:=kb BK581 hb
             replace BK587:=kb BK587 hb
             replace HB:=am (below_step zb hb)
             (try clear hb)
             (try clear hb2)
             (try clear hk)
             (try clear hi)
             refine hK.out _ _ ⟨(blk_cell BK536.out 0).trans rfl,(blk_cell BK536.out 1).trans rfl,(blk_cell BK537.out 0).trans rfl,(blk_cell BK537.out 1).trans rfl,(blk_cell BK555.out 0).trans rfl,(blk_cell BK555.out 1).trans rfl,(blk_cell BK556.out 0).trans rfl,(blk_cell BK556.out 1).trans rfl,(blk_cell BK574.out 0).trans rfl,(blk_cell BK574.out 1).trans rfl,(blk_cell BK575.out 0).trans rfl,(blk_cell BK575.out 1).trans rfl⟩ (fun hHeld=>?_)
             clear hK K
             refine norm_ (a':=?_) ?_ ?_
             rotate_left
             ·show Act.put _ (some 90) _ = _
              simp only [Act.put,sA,sZ,sS,i64_w,i32_w]
              rfl
             refine pu (i:=48) (N:=some 91) #[tt,tt,tt,tt,tt,tt,tt,tt,tt,tt,tt,tt,tt,tt,tt,tt,tt,tt,tt,tt,tt,tt,tt,tt,tt,tt,tt,tt,tt,tt,tt,tt,tt,tt,tt,tt,tt,tt,tt,tt,tt,tt,tt,tt,tt,tt,tt,tt,tt,ff,ff,ff,ff,ff,ff,ff,ff,ff,ff,ff,ff,ff,ff] (any_of HT_.out (by kernel_rfl)) ?_
             refine pu (i:=49) (N:=some 92) #[tt,tt,tt,tt,tt,tt,tt,tt,tt,tt,tt,tt,tt,tt,tt,tt,tt,tt,tt,tt,tt,tt,tt,tt,tt,tt,tt,tt,tt,tt,tt,tt,tt,tt,tt,tt,tt,tt,tt,tt,tt,tt,tt,tt,tt,tt,tt,tt,tt,tt,ff,ff,ff,ff,ff,ff,ff,ff,ff,ff,ff,ff,ff] (any_of HT_.out (by kernel_rfl)) ?_
             refine pu (i:=50) (N:=some 93) #[tt,tt,tt,tt,tt,tt,tt,tt,tt,tt,tt,tt,tt,tt,tt,tt,tt,tt,tt,tt,tt,tt,tt,tt,tt,tt,tt,tt,tt,tt,tt,tt,tt,tt,tt,tt,tt,tt,tt,tt,tt,tt,tt,tt,tt,tt,tt,tt,tt,tt,tt,ff,ff,ff,ff,ff,ff,ff,ff,ff,ff,ff,ff] (any_of HT_.out (by kernel_rfl)) ?_
             refine one_ (i:=51) (N:=some 94) #[tt,tt,tt,tt,tt,tt,tt,tt,tt,tt,tt,tt,tt,tt,tt,tt,tt,tt,tt,tt,tt,tt,tt,tt,tt,tt,tt,tt,tt,tt,tt,tt,tt,tt,tt,tt,tt,tt,tt,tt,tt,tt,tt,tt,tt,tt,tt,tt,tt,tt,tt,tt,ff,ff,ff,ff,ff,ff,ff,ff,ff,ff,ff] rfl rfl (one_of HT_.out (by kernel_rfl)) (by decide) (fun K hK=>?_)
             refine goes_ Tryz.func23 (by kernel_rfl) rfl #[.agg #[.bool true,.slice none 0 0]] (by rfl) rfl rfl zl ?_
             refine(num_Text.calls k true _ _ ([] : List Int) t642 _ ?side1 ?side2 ?side3 A40.out).mono ?_
             (case side1=>exact Kd.C_nil _ _)
             (case side2=>exact Nat.le_refl _)
             (case side3=>exact GW.below HG.out zb)
             rintro e w146 ⟨rfl,hb⟩
             refine⟨_,rfl,?_⟩
             replace HO530:=vb HO530 hb
             replace HO534:=vb HO534 hb
             replace HO549:=vb HO549 hb
             replace HO553:=vb HO553 hb
             replace HO568:=vb HO568 hb
             replace HO572:=vb HO572 hb
             replace HO585:=vb HO585 hb
             replace HO591:=vb HO591 hb
             replace HO596:=vb HO596 hb
             replace HO601:=vb HO601 hb
             replace HO606:=vb HO606 hb
             replace HO611:=vb HO611 hb
             replace HO616:=vb HO616 hb
             replace HO621:=vb HO621 hb
             replace HO625:=vb HO625 hb
             replace HO629:=vb HO629 hb
             replace HO632:=nb HO632 hb
             replace HO636:=vb HO636 hb
             replace HO640:=vb HO640 hb
             replace BK536:=kb BK536 hb
             replace BK537:=kb BK537 hb
             replace BK555:=kb BK555 hb
             replace BK556:=kb BK556 hb
             replace BK574:=kb BK574 hb
             replace BK575:=kb BK575 hb
             replace BK581:=kb BK581 hb
             replace BK587:=kb BK587 hb
             replace HB:=am (below_step zb hb)
             (try clear hb)
             (try clear hb2)
             (try clear hk)
             (try clear hi)
             refine hK.out _ _ ⟨(blk_cell BK536.out 0).trans rfl,(blk_cell BK536.out 1).trans rfl,(blk_cell BK537.out 0).trans rfl,(blk_cell BK537.out 1).trans rfl,(blk_cell BK555.out 0).trans rfl,(blk_cell BK555.out 1).trans rfl,(blk_cell BK556.out 0).trans rfl,(blk_cell BK556.out 1).trans rfl,(blk_cell BK574.out 0).trans rfl,(blk_cell BK574.out 1).trans rfl,(blk_cell BK575.out 0).trans rfl,(blk_cell BK575.out 1).trans rfl⟩ (fun hHeld=>?_)
             clear hK K
             refine norm_ (a':=?_) ?_ ?_
             rotate_left
             ·show Act.put _ (some 94) _ = _
              simp only [Act.put,sA,sZ,sS,i64_w,i32_w]
              rfl
             refine pu (i:=52) (N:=some 95) #[tt,tt,tt,tt,tt,tt,tt,tt,tt,tt,tt,tt,tt,tt,tt,tt,tt,tt,tt,tt,tt,tt,tt,tt,tt,tt,tt,tt,tt,tt,tt,tt,tt,tt,tt,tt,tt,tt,tt,tt,tt,tt,tt,tt,tt,tt,tt,tt,tt,tt,tt,tt,tt,ff,ff,ff,ff,ff,ff,ff,ff,ff,ff] (any_of HT_.out (by kernel_rfl)) ?_
             refine pu (i:=53) (N:=some 96) #[tt,tt,tt,tt,tt,tt,tt,tt,tt,tt,tt,tt,tt,tt,tt,tt,tt,tt,tt,tt,tt,tt,tt,tt,tt,tt,tt,tt,tt,tt,tt,tt,tt,tt,tt,tt,tt,tt,tt,tt,tt,tt,tt,tt,tt,tt,tt,tt,tt,tt,tt,tt,tt,tt,ff,ff,ff,ff,ff,ff,ff,ff,ff] (any_of HT_.out (by kernel_rfl)) ?_
             refine pu (i:=54) (N:=some 97) #[tt,tt,tt,tt,tt,tt,tt,tt,tt,tt,tt,tt,tt,tt,tt,tt,tt,tt,tt,tt,tt,tt,tt,tt,tt,tt,tt,tt,tt,tt,tt,tt,tt,tt,tt,tt,tt,tt,tt,tt,tt,tt,tt,tt,tt,tt,tt,tt,tt,tt,tt,tt,tt,tt,tt,ff,ff,ff,ff,ff,ff,ff,ff] (any_of HT_.out (by kernel_rfl)) ?_
             refine pu (i:=55) (N:=some 98) #[tt,tt,tt,tt,tt,tt,tt,tt,tt,tt,tt,tt,tt,tt,tt,tt,tt,tt,tt,tt,tt,tt,tt,tt,tt,tt,tt,tt,tt,tt,tt,tt,tt,tt,tt,tt,tt,tt,tt,tt,tt,tt,tt,tt,tt,tt,tt,tt,tt,tt,tt,tt,tt,tt,tt,tt,ff,ff,ff,ff,ff,ff,ff] (any_of HT_.out (by kernel_rfl)) ?_
             refine pu (i:=56) (N:=some 99) #[tt,tt,tt,tt,tt,tt,tt,tt,tt,tt,tt,tt,tt,tt,tt,tt,tt,tt,tt,tt,tt,tt,tt,tt,tt,tt,tt,tt,tt,tt,tt,tt,tt,tt,tt,tt,tt,tt,tt,tt,tt,tt,tt,tt,tt,tt,tt,tt,tt,tt,tt,tt,tt,tt,tt,tt,tt,ff,ff,ff,ff,ff,ff] (any_of HT_.out (by kernel_rfl)) ?_
             refine pu (i:=57) (N:=some 100) #[tt,tt,tt,tt,tt,tt,tt,tt,tt,tt,tt,tt,tt,tt,tt,tt,tt,tt,tt,tt,tt,tt,tt,tt,tt,tt,tt,tt,tt,tt,tt,tt,tt,tt,tt,tt,tt,tt,tt,tt,tt,tt,tt,tt,tt,tt,tt,tt,tt,tt,tt,tt,tt,tt,tt,tt,tt,tt,ff,ff,ff,ff,ff] (any_of HT_.out (by kernel_rfl)) ?_
             refine pu (i:=58) (N:=some 101) #[tt,tt,tt,tt,tt,tt,tt,tt,tt,tt,tt,tt,tt,tt,tt,tt,tt,tt,tt,tt,tt,tt,tt,tt,tt,tt,tt,tt,tt,tt,tt,tt,tt,tt,tt,tt,tt,tt,tt,tt,tt,tt,tt,tt,tt,tt,tt,tt,tt,tt,tt,tt,tt,tt,tt,tt,tt,tt,tt,ff,ff,ff,ff] (any_of HT_.out (by kernel_rfl)) ?_
             refine pu (i:=59) (N:=some 102) #[tt,tt,tt,tt,tt,tt,tt,tt,tt,tt,tt,tt,tt,tt,tt,tt,tt,tt,tt,tt,tt,tt,tt,tt,tt,tt,tt,tt,tt,tt,tt,tt,tt,tt,tt,tt,tt,tt,tt,tt,tt,tt,tt,tt,tt,tt,tt,tt,tt,tt,tt,tt,tt,tt,tt,tt,tt,tt,tt,tt,ff,ff,ff] (any_of HT_.out (by kernel_rfl)) ?_
             refine pu (i:=60) (N:=some 103) #[tt,tt,tt,tt,tt,tt,tt,tt,tt,tt,tt,tt,tt,tt,tt,tt,tt,tt,tt,tt,tt,tt,tt,tt,tt,tt,tt,tt,tt,tt,tt,tt,tt,tt,tt,tt,tt,tt,tt,tt,tt,tt,tt,tt,tt,tt,tt,tt,tt,tt,tt,tt,tt,tt,tt,tt,tt,tt,tt,tt,tt,ff,ff] (any_of HT_.out (by kernel_rfl)) ?_
             refine pu (i:=61) (N:=some 104) #[tt,tt,tt,tt,tt,tt,tt,tt,tt,tt,tt,tt,tt,tt,tt,tt,tt,tt,tt,tt,tt,tt,tt,tt,tt,tt,tt,tt,tt,tt,tt,tt,tt,tt,tt,tt,tt,tt,tt,tt,tt,tt,tt,tt,tt,tt,tt,tt,tt,tt,tt,tt,tt,tt,tt,tt,tt,tt,tt,tt,tt,tt,ff] (any_of HT_.out (by kernel_rfl)) ?_
             refine pu (i:=62) (N:=some 0) #[tt,tt,tt,tt,tt,tt,tt,tt,tt,tt,tt,tt,tt,tt,tt,tt,tt,tt,tt,tt,tt,tt,tt,tt,tt,tt,tt,tt,tt,tt,tt,tt,tt,tt,tt,tt,tt,tt,tt,tt,tt,tt,tt,tt,tt,tt,tt,tt,tt,tt,tt,tt,tt,tt,tt,tt,tt,tt,tt,tt,tt,tt,tt] (any_of HT_.out (by kernel_rfl)) ?_
             refine done_ (done_of HT_.out (by kernel_rfl)) ?_
             try go_wp2
             go_ret
             exact⟨zf,zb⟩
           ·rw [if_neg c41] at H
            have c41b0 : (t642.toList == ([48] : List UInt8)) = false:=beq_eq_false_iff_ne.mpr c41
            have c41b1 : (t642.toList != ([48] : List UInt8)) = true:=bne_iff_ne.mpr c41
            exact absurd ((Option.some.inj H).trans HRT.out) (by decide)
          ·replace c39:=Bool.eq_false_iff.mpr c39
           subst c39
           have H1 : (some false) = some r:=by rw [if_neg (show ¬ (false = true) by decide)] at H;exact H
           clear H
           have H:=H1
           clear H1
           exact absurd ((Option.some.inj H).trans HRT.out) (by decide)
         ·rw [if_neg c32] at H
          have c32b0 : (t573 == 0) = false:=beq_eq_false_iff_ne.mpr c32
          have c32b1 : (t573 != 0) = true:=bne_iff_ne.mpr c32
          exact absurd ((Option.some.inj H).trans HRT.out) (by decide)
        ·replace c31:=Bool.eq_false_iff.mpr c31
         subst c31
         have H1 : (some false) = some r:=by rw [if_neg (show ¬ (false = true) by decide)] at H;exact H
         clear H
         have H:=H1
         clear H1
         exact absurd ((Option.some.inj H).trans HRT.out) (by decide)
       ·replace c28:=Bool.eq_false_iff.mpr c28
        subst c28
        have H1 : (some false) = some r:=by rw [if_neg (show ¬ (false = true) by decide)] at H;exact H
        clear H
        have H:=H1
        clear H1
        exact absurd ((Option.some.inj H).trans HRT.out) (by decide)
      ·rw [if_neg c25] at H
       have c25b0 : (t554 == 0) = false:=beq_eq_false_iff_ne.mpr c25
       have c25b1 : (t554 != 0) = true:=bne_iff_ne.mpr c25
       exact absurd ((Option.some.inj H).trans HRT.out) (by decide)
     ·replace c24:=Bool.eq_false_iff.mpr c24
      subst c24
      have H1 : (some false) = some r:=by rw [if_neg (show ¬ (false = true) by decide)] at H;exact H
      clear H
      have H:=H1
      clear H1
      exact absurd ((Option.some.inj H).trans HRT.out) (by decide)
    ·replace c21:=Bool.eq_false_iff.mpr c21
     subst c21
     have H1 : (some false) = some r:=by rw [if_neg (show ¬ (false = true) by decide)] at H;exact H
     clear H
     have H:=H1
     clear H1
     exact absurd ((Option.some.inj H).trans HRT.out) (by decide)
   ·rw [if_neg c18] at H
    have c18b0 : (t535 == 0) = false:=beq_eq_false_iff_ne.mpr c18
    have c18b1 : (t535 != 0) = true:=bne_iff_ne.mpr c18
    exact absurd ((Option.some.inj H).trans HRT.out) (by decide)
  ·replace c17:=Bool.eq_false_iff.mpr c17
   subst c17
   have H1 : (some false) = some r:=by rw [if_neg (show ¬ (false = true) by decide)] at H;exact H
   clear H
   have H:=H1
   clear H1
   exact absurd ((Option.some.inj H).trans HRT.out) (by decide)
 ·replace c14:=Bool.eq_false_iff.mpr c14
  subst c14
  have H1 : (some false) = some r:=by rw [if_neg (show ¬ (false = true) by decide)] at H;exact H
  clear H
  have H:=H1
  clear H1
  exact absurd ((Option.some.inj H).trans HRT.out) (by decide)

end Go.Proofs.YtcbohpmdeboeoaaGreatDoorRR.X

-- Printed by xprint.py, this session's own program (wip/tool), out of the translation. Lean checks it.
import Derived.Test.YtcbohpmdeboeoaaGreatDoorRRZ
import Derived.Test.YtcbohpmdeboeoaaGreatDoorRRX0
namespace Go.Proofs.YtcbohpmdeboeoaaGreatDoorRR.X
open Go.Proofs.YtcbohpmdeboeoaaGreatDoorRR.Z
open Go.RowKit Go.Proofs.YtcbohpmdeboeoaaGreatDoorRRW.PrintWords Go.Proofs.YtcbohpmdeboeoaaGreatDoorRRW.PrintLast Go.Proofs.YtcbohpmdeboeoaaGreatDoorRRW.PrintMore
open List renaming setIfInBounds_toArray → sA, set_cons_zero → sZ, set_cons_succ → sS
open Aside0 renaming mk → am
open Bool renaming true → tt, false → ff
set_option maxHeartbeats 8000000
set_option maxRecDepth 100000
attribute [local go_sem] max2_int min2_int max_two min_two max_three min_three max_four min_four   -- for this text's walks alone
set_option linter.unusedVariables false
set_option linter.unusedSimpArgs false

/-! ### whetstoneref01_write: function 60 -/
mutual
def whetstoneref01_write.l0 : Nat→List Int→List Int→Int→Option (List Int)
 | 0,_,_,_=>none
 | k + 1,x0,x3,x4=>if x4 < (x0.length : Int) then(whetstoneref01_write.l1 k x0 x3 x4 0 (wrap64 ((mn (wrap64 (x4 + 9)) (x0.length : Int)) - 1))) else(some x3)
def whetstoneref01_write.l1 : Nat→List Int→List Int→Int→Int→Int→Option (List Int)
 | 0,_,_,_,_,_=>none
 | k + 1,x0,x3,x4,x5,x6=>if x6≥x4 then(if 0≤x6 then(if x6 < (x0.length : Int) then(whetstoneref01_write.l1 k x0 x3 x4 (((10 * x5) + (rd x0 x6)) % 4294967296) (wrap64 (x6 - 1))) else(none)) else(none)) else(if x3.length < 35184372088832 then(whetstoneref01_write.l0 k x0 (x3 ++ [x5]) (wrap64 (x4 + 9))) else(none))
end
def whetstoneref01_write.f (k : Nat) (l0 : List Int) : Option (List Int):=whetstoneref01_write.l0 k l0 ([] : List Int) 0
theorem whetstoneref01_write.calls (k : Nat) (A0 : Option Addr) (c0 : Nat) (l0 : List Int) (r : List Int) (w : World) (hr0 : Kd.C (Kd.int .u8) w A0 l0.length l0) (hc0 : l0.length≤c0) (h : whetstoneref01_write.f k l0 = some r) :
  Calls Tryz.prog 60 #[.slice A0 l0.length c0] w fun e w'=>∃ v0_ : Value,e = .returned (v0_)∧Kd.R (Kd.int .u32) 60 w' w.heap.size (fun _=>True) v0_ r∧Below w.heap.size w w':=by
 have HR0:=am hr0
 have HC0:=am hc0
 clear hr0 hc0
 have HB:=am (Below.refl w.heap.size w)
 have H : (whetstoneref01_write.l0 k l0 ([] : List Int) 0) = some r:=h
 clear h
 have H':=am H
 clear H
 go_enter Tryz.func60,Tryz.ntmps60
 go_wp2
 go_loopg [3,4] k (fun kq v3 v4 w'=>∃ (x3_1 : List Int) (x4_1 : Int),v4 = .int .i64 x4_1∧Aside0 (whetstoneref01_write.l0 kq l0 x3_1 x4_1 = some r)∧Aside0 (kq≤k)∧Aside0 (Kd.R (Kd.int .u32) 60 w' w.heap.size (fun _=>True) v3 x3_1)∧Aside0 (Below w.heap.size w w'))
 case atStart=>exact⟨(([] : List Int)),(0),ze,H',⟨Nat.le_refl _⟩,⟨by first | exact Kd.R_nil _ _ _ _ _ | exact Kd.N_nil _ _ _ _ _ | exact Kd.V_nil _ _ _ _ _ | exact Kd.Q_nil _ _ _ _ _ | exact Kd.S_nil _ _ _ _ _⟩,⟨zb⟩⟩
 case round=>
  clear H'
  obtain⟨x3_1,x4_1,rfl,HA,HK1,HO_3,HB⟩:=hrel
  cases gk with
  | zero=>exact absurd HA.out (by simp [whetstoneref01_write.l0])
  | succ k1=>
   have H:=HA.out
   clear HA
   simp only [whetstoneref01_write.l0] at H
   by_cases c2 : x4_1 < (l0.length : Int)
   ·rw [if_pos c2] at H
    have c2b0 : decide (x4_1 < (l0.length : Int)) = true:=decide_eq_true c2
    clear c2
    obtain⟨ji3,hji3⟩ : ∃ j_ : Int,(mn (wrap64 (x4_1 + 9)) (l0.length : Int)) = j_:=⟨_,rfl⟩
    replace H : (whetstoneref01_write.l1 k1 l0 x3_1 x4_1 0 (wrap64 ((ji3) - 1))) = some r:=by first |(rw [hji3] at H;exact H) |(simp only [hji3] at H ⊢;exact H)
    have hji3_ : (if (l0.length : Int) < (wrap64 (x4_1 + 9)) then(l0.length : Int) else(wrap64 (x4_1 + 9))) = ji3:=hji3
    have H':=am H
    clear H
    go_wp2
    go_loopg [5,6] k1 (fun kq v5 v6 w'=>∃ (x5_2 : Int) (x6_2 : Int),v5 = .int .u32 x5_2∧v6 = .int .i64 x6_2∧Aside0 (whetstoneref01_write.l1 kq l0 x3_1 x4_1 x5_2 x6_2 = some r)∧Aside0 (kq≤k1)∧Aside0 (Kd.R (Kd.int .u32) 60 w' w.heap.size (fun _=>True) u3 x3_1)∧Aside0 (Below w.heap.size w w'))
    case atStart=>exact⟨(0),(wrap64 ((ji3) - 1)),ze,(by first | rfl |(simp;done) |(simp only [← hji3] <;> (first | rfl | simp)) |(simp [*];done)),H',⟨Nat.le_refl _⟩,⟨zR HO_3.out⟩,⟨zb⟩⟩
    case round=>
     clear H'
     try clear c2
     try clear c2b0
     try clear p2
     obtain⟨x5_2,x6_2,rfl,rfl,HA,HK2,HO_3,HB⟩:=hrel
     cases gk with
     | zero=>exact absurd HA.out (by simp [whetstoneref01_write.l1])
     | succ k2=>
      have H:=HA.out
      clear HA
      simp only [whetstoneref01_write.l1] at H
      by_cases c4 : x6_2≥x4_1
      ·rw [if_pos c4] at H
       have c4b0 : decide (x4_1≤x6_2) = true:=decide_eq_true c4
       clear c4
       by_cases c5 : 0≤x6_2
       ·rw [if_pos c5] at H
        have c5b0 : decide (0≤x6_2) = true:=decide_eq_true c5
        clear c5
        by_cases c6 : x6_2 < (l0.length : Int)
        ·rw [if_pos c6] at H
         have c6b0 : decide (x6_2 < (l0.length : Int)) = true:=decide_eq_true c6
         clear c6
         have H':=am H
         clear H
         have p643 : 0≤(x6_2 : Int):=of_decide_eq_true za
         have q643 : x6_2 < (l0.length : Int):=of_decide_eq_true za
         obtain⟨ad643,e643,hx643_0⟩:=Kd.at_int HR0.out x6_2 p643 q643
         cases e643
         replace hx643_0:=(HB.out.cell (World.block_lt_of_cell? w _ hx643_0)).trans hx643_0
         replace p643:=eq_true p643
         replace q643:=eq_true q643
         go_wp2
         go_roundg k2
         case measure=>have:=HK1.out;have:=HK2.out;omega
         case rel=>exact⟨(((10 * x5_2) + (rd l0 x6_2)) % 4294967296),(wrap64 (x6_2 - 1)),ze,ze,H',⟨by have:=HK1.out;have:=HK2.out;omega⟩,⟨zR HO_3.out⟩,⟨zb⟩⟩
        ·rw [if_neg c6] at H
         exact absurd H (by simp)
       ·rw [if_neg c5] at H
        exact absurd H (by simp)
      ·rw [if_neg c4] at H
       have c4b0 : decide (x4_1≤x6_2) = false:=decide_eq_false c4
       clear c4
       by_cases c7 : x3_1.length < 35184372088832
       ·rw [if_pos c7] at H
        have LMc7:=am c7
        clear c7
        obtain⟨y644,hy644⟩ : ∃ y_ : List Int,y_ = (x3_1 ++ [x5_2]):=⟨_,rfl⟩
        replace H : (whetstoneref01_write.l0 k2 l0 y644 (wrap64 (x4_1 + 9))) = some r:=by first |(rw [hy644];with_reducible exact H) |(have H2_:=(Option.bind_some _ _).symm.trans H;rw [hy644];with_reducible exact H2_) |(have H2_:=(Option.bind_some _ _).symm.trans H;with_reducible exact H2_) | with_reducible exact H |(rw [hy644];exact H) | exact H
        have Ny644:=am hy644
        clear hy644
        have H':=am H
        clear H
        go_wp2_with (first |((with_reducible refine gate_builtin (b:=.append) (xs:=#[.tmp 32,.tmp 34]) rfl ?_);at_builtin;refine Kd.R_append (Kd.int .u32) (w0:=w) w.heap.size rfl (.tmp 32) (.tmp 34) 23 60 (.int .u32 0) 4 rfl Tryz.underlying23 info60 rfl (by decide) (by omega) u3 x3_1 x5_2 [.int .u32 x5_2] (fun _=>True) (fun _=>False) rfl rfl ?aP (fun _ hk=>hk.elim) ?aF ?aO ?aB ?aS ?aL ?_;(case aP=>exact rfl);(case aB=>exact zb);(case aF=>exact(fun _ _=>trivial));(case aO=>exact(zR HO_3.out));(case aS=>exact(below_size zb));(case aL=>have:=LMc7.out;omega);intro v645 w8 ho hb hg hat;rw [← Ny644.out] at ho;replace HB:=am (hb);have HO646:=am (ho);clear HO_3;clear ho hb hg hat))
        go_roundg k2
        case measure=>have:=HK1.out;have:=HK2.out;omega
        case rel=>exact⟨(y644),(wrap64 (x4_1 + 9)),ze,H',⟨by have:=HK1.out;have:=HK2.out;omega⟩,⟨zR HO646.out⟩,⟨zb⟩⟩
       ·rw [if_neg c7] at H
        exact absurd H (by simp)
   ·rw [if_neg c2] at H
    have c2b0 : decide (x4_1 < (l0.length : Int)) = false:=decide_eq_false c2
    clear c2
    obtain rfl:=Option.some.inj H
    go_wp2
    go_ret
    exact⟨_,zf,zR HO_3.out,zb⟩

/-! ### whetstoneref01_trim: function 61 -/
def whetstoneref01_trim.l0 : Nat→List Int→Option (List Int)
 | 0,_=>none
 | k + 1,x0=>if (x0.length : Int) > 0 then(if 0≤(wrap64 ((x0.length : Int) - 1)) then(if (wrap64 ((x0.length : Int) - 1)) < (x0.length : Int) then(if (rd x0 (wrap64 ((x0.length : Int) - 1))) = 0 then(if (wrap64 ((x0.length : Int) - 1))≤(x0.length : Int) then(whetstoneref01_trim.l0 k (x0.take ((wrap64 ((x0.length : Int) - 1)) : Int).toNat)) else(none)) else(some x0)) else(none)) else(none)) else(some x0)
def whetstoneref01_trim.f (k : Nat) (l0 : List Int) : Option (List Int):=whetstoneref01_trim.l0 k l0
theorem whetstoneref01_trim.calls (k : Nat) (P0_ : Nat→Prop) (A0 : Option Addr) (c0 : Nat) (l0 : List Int) (r : List Int) (w : World) (hs0 : Kd.V (Kd.int .u8) 5 w w.heap.size (fun k_=>P0_ k_) (.slice A0 l0.length c0) l0) (h : whetstoneref01_trim.f k l0 = some r) :
  Calls Tryz.prog 61 #[.slice A0 l0.length c0] w fun e w'=>∃ v0_ : Value,e = .returned (v0_)∧Kd.V (Kd.int .u8) 5 w' w.heap.size (fun k_=>(P0_ k_∨w.heap.size≤k_)) v0_ r∧Below w.heap.size w w':=by
 have HO0:=am (show Kd.V (Kd.int .u8) 5 w w.heap.size (fun k_=>(P0_ k_∨w.heap.size≤k_)) (.slice A0 l0.length c0) l0 from Kd.V_mono hs0 (fun k_ hk=>.inl hk))
 have HB:=am (Below.refl w.heap.size w)
 have H : (whetstoneref01_trim.l0 k l0) = some r:=h
 clear h
 have H':=am H
 clear H
 go_enter Tryz.func61,Tryz.ntmps61
 go_wp2
 go_loopg [0] k (fun kq v0 w'=>∃ (x0_1 : List Int),Aside0 (whetstoneref01_trim.l0 kq x0_1 = some r)∧Aside0 (kq≤k)∧Aside0 (Kd.V (Kd.int .u8) 5 w' w.heap.size (fun k_=>(P0_ k_∨w.heap.size≤k_)) v0 x0_1)∧Aside0 (Below w.heap.size w w'))
 case atStart=>exact⟨(l0),H',⟨Nat.le_refl _⟩,⟨zV HO0.out⟩,⟨zb⟩⟩
 case round=>
  clear H'
  obtain⟨x0_1,HA,HK1,HO_0,HB⟩:=hrel
  cases gk with
  | zero=>exact absurd HA.out (by simp [whetstoneref01_trim.l0])
  | succ k1=>
   have H:=HA.out
   clear HA
   simp only [whetstoneref01_trim.l0] at H
   by_cases c2 : (x0_1.length : Int) > 0
   ·rw [if_pos c2] at H
    have c2b0 : decide (0 < (x0_1.length : Int)) = true:=decide_eq_true c2
    have c2b1 : decide (0 < x0_1.length) = true:=decide_eq_true (by omega)
    clear c2
    obtain⟨ji3,hji3⟩ : ∃ j_ : Int,(wrap64 ((x0_1.length : Int) - 1)) = j_:=⟨_,rfl⟩
    replace H : (if 0≤(ji3) then(if (ji3) < (x0_1.length : Int) then(if (rd x0_1 (ji3)) = 0 then(if (ji3)≤(x0_1.length : Int) then(whetstoneref01_trim.l0 k1 (x0_1.take ((ji3) : Int).toNat)) else(none)) else(some x0_1)) else(none)) else(none)) = some r:=by first |(rw [hji3] at H;exact H) |(simp only [hji3] at H ⊢;exact H)
    have hji3w : (IntKind.i64.wrap ((x0_1.length : Int) - 1)) = ji3:=(i64_w _).trans hji3
    by_cases c4 : 0≤(ji3)
    ·rw [if_pos c4] at H
     have c4b0 : decide (0≤(ji3)) = true:=decide_eq_true c4
     clear c4
     by_cases c5 : (ji3) < (x0_1.length : Int)
     ·rw [if_pos c5] at H
      have c5b0 : decide ((ji3) < (x0_1.length : Int)) = true:=decide_eq_true c5
      clear c5
      by_cases c6 : (rd x0_1 (ji3)) = 0
      ·rw [if_pos c6] at H
       have c6b0 : ((rd x0_1 (ji3)) == 0) = true:=beq_iff_eq.mpr c6
       have c6b1 : ((rd x0_1 (ji3)) != 0) = false:=bne_eq_false_iff_eq.mpr c6
       clear c6
       have c7b0:=eq_true (of_decide_eq_true za : 0≤(ji3))
       by_cases c8 : (ji3)≤(x0_1.length : Int)
       ·rw [if_pos c8] at H
        have c8b0:=eq_true c8
        have c8b1 : decide ((ji3)≤(x0_1.length : Int)) = true:=decide_eq_true c8
        clear c8
        obtain⟨y648,hy648⟩ : ∃ y_ : List Int,y_ = (x0_1.take ((ji3) : Int).toNat):=⟨_,rfl⟩
        replace H : (whetstoneref01_trim.l0 k1 y648) = some r:=by first |(rw [hy648];with_reducible exact H) |(have H2_:=(Option.bind_some _ _).symm.trans H;rw [hy648];with_reducible exact H2_) |(have H2_:=(Option.bind_some _ _).symm.trans H;with_reducible exact H2_) | with_reducible exact H |(rw [hy648];exact H) | exact H
        have Ny648:=am hy648
        clear hy648
        have H':=am H
        clear H
        obtain⟨Ao9,co9,eo9⟩:=Kd.V_slice HO_0.out
        subst eo9
        have p647 : 0≤((ji3) : Int):=of_decide_eq_true za
        have q647 : (ji3) < (x0_1.length : Int):=of_decide_eq_true za
        obtain⟨ad647,e647,hx647_0⟩:=Kd.at_int (Kd.V_reads' HO_0.out).2.2 (ji3) p647 q647
        cases e647
        replace p647:=eq_true p647
        replace q647:=eq_true q647
        have q10 : ((ji3) : Int)≤((x0_1.length : Int) : Int):=of_decide_eq_true za
        obtain⟨i010,hi010,_,hsz10,_⟩:=info_parts info5
        have hroom10 : x0_1.length≤co9:=(Kd.V_reads' HO_0.out).2.1
        have hC10 : Kd.F (Kd.int .u8) _ _ (some ad647) x0_1.length x0_1:=(Kd.V_at (base:=w.heap.size) HO_0.out).2.2
        have hcut10:=cut_to (P:=Tryz.prog) 87 5 .i64 Tryz.underlying87 hi010 (some ad647) x0_1.length co9 (ji3) (of_decide_eq_true za) q10 hroom10
        have hr10:=Kd.F_take (m:=((ji3) : Int).toNat) hC10 (by omega)
        have hy10 : y648.length = ((ji3) : Int).toNat:=(by rw [Ny648.out,List.length_take];omega)
        rw [← Ny648.out] at hr10
        rw [← hy10] at hcut10
        have HO652:=am (show Kd.V (Kd.int .u8) 5 _ w.heap.size _ (.slice (some ad647) y648.length co9) y648 from Kd.V_mk (by omega) hr10)
        have HC652:=am (show y648.length≤co9 from by omega)
        clear hr10 hC10 hroom10 hi010 hsz10
        have KY10:=am hy10
        clear hy10
        replace q10:=eq_true q10
        go_wp2
        go_roundg k1
        case measure=>have:=HK1.out;omega
        case rel=>exact⟨(y648),H',⟨by have:=HK1.out;omega⟩,⟨zV HO652.out⟩,⟨zb⟩⟩
       ·rw [if_neg c8] at H
        exact absurd H (by simp)
      ·rw [if_neg c6] at H
       have c6b0 : ((rd x0_1 (ji3)) == 0) = false:=beq_eq_false_iff_ne.mpr c6
       have c6b1 : ((rd x0_1 (ji3)) != 0) = true:=bne_iff_ne.mpr c6
       obtain rfl:=Option.some.inj H
       obtain⟨Ao11,co11,eo11⟩:=Kd.V_slice HO_0.out
       subst eo11
       have p647 : 0≤((ji3) : Int):=of_decide_eq_true za
       have q647 : (ji3) < (x0_1.length : Int):=of_decide_eq_true za
       obtain⟨ad647,e647,hx647_0⟩:=Kd.at_int (Kd.V_reads' HO_0.out).2.2 (ji3) p647 q647
       cases e647
       replace p647:=eq_true p647
       replace q647:=eq_true q647
       go_wp2
       go_ret
       exact⟨_,by first | rfl |(simp [errW_none,errW_some] <;> rfl) |(simp only [← hji3];first | rfl |(simp [errW_none,errW_some] <;> rfl)) |(simp [*,errW_none,errW_some] <;> rfl),zV HO_0.out,zb⟩
     ·rw [if_neg c5] at H
      exact absurd H (by simp)
    ·rw [if_neg c4] at H
     exact absurd H (by simp)
   ·rw [if_neg c2] at H
    have c2b0 : decide (0 < (x0_1.length : Int)) = false:=decide_eq_false c2
    have c2b1 : decide (0 < x0_1.length) = false:=decide_eq_false (by omega)
    clear c2
    obtain rfl:=Option.some.inj H
    obtain⟨Ao12,co12,eo12⟩:=Kd.V_slice HO_0.out
    subst eo12
    go_wp2
    go_ret
    exact⟨_,zf,zV HO_0.out,zb⟩

/-! ### whetstoneref01_plus: function 90 -/
mutual
def whetstoneref01_plus.l0 : Nat→List Int→List Int→List Int→Int→Int→Option (List Int)
 | 0,_,_,_,_,_=>none
 | k + 1,x0,x1,x5,x6,x7=>if x7 < (x0.length : Int) then(whetstoneref01_plus.j1 k x0 x1 x5 x6 x7 true) else(if x7 < (x1.length : Int) then(whetstoneref01_plus.j1 k x0 x1 x5 x6 x7 true) else(whetstoneref01_plus.j1 k x0 x1 x5 x6 x7 (decide (x6 > 0))))
def whetstoneref01_plus.j1 : Nat→List Int→List Int→List Int→Int→Int→Bool→Option (List Int)
 | 0,_,_,_,_,_,_=>none
 | k + 1,x0,x1,x5,x6,x7,x22=>if x22 = true then(if x7 < (x0.length : Int) then(if 0≤x7 then(if x7 < (x1.length : Int) then(if x5.length < 140737488355328 then(whetstoneref01_plus.l0 k x0 x1 (x5 ++ [(((x6 + (rd x0 x7)) + (rd x1 x7)) % 256) % 10]) ((((x6 + (rd x0 x7)) + (rd x1 x7)) % 256) / 10) (wrap64 (x7 + 1))) else(none)) else(if x5.length < 140737488355328 then(whetstoneref01_plus.l0 k x0 x1 (x5 ++ [((x6 + (rd x0 x7)) % 256) % 10]) (((x6 + (rd x0 x7)) % 256) / 10) (wrap64 (x7 + 1))) else(none))) else(none)) else(if x7 < (x1.length : Int) then(if 0≤x7 then(if x5.length < 140737488355328 then(whetstoneref01_plus.l0 k x0 x1 (x5 ++ [((x6 + (rd x1 x7)) % 256) % 10]) (((x6 + (rd x1 x7)) % 256) / 10) (wrap64 (x7 + 1))) else(none)) else(none)) else(if x5.length < 140737488355328 then(whetstoneref01_plus.l0 k x0 x1 (x5 ++ [Int.tmod x6 10]) ((Int.tdiv x6 10) % 256) (wrap64 (x7 + 1))) else(none)))) else((whetstoneref01_trim.f k x5).bind fun t653=>(some t653))
end
def whetstoneref01_plus.f (k : Nat) (l0 : List Int) (l1 : List Int) : Option (List Int):=whetstoneref01_plus.l0 k l0 l1 ([] : List Int) 0 0
theorem whetstoneref01_plus.calls (k : Nat) (A0 : Option Addr) (c0 : Nat) (l0 : List Int) (A1 : Option Addr) (c1 : Nat) (l1 : List Int) (r : List Int) (w : World) (hr0 : Kd.C (Kd.int .u8) w A0 l0.length l0) (hc0 : l0.length≤c0) (hr1 : Kd.C (Kd.int .u8) w A1 l1.length l1) (hc1 : l1.length≤c1) (h : whetstoneref01_plus.f k l0 l1 = some r) :
  Calls Tryz.prog 90 #[.slice A0 l0.length c0,.slice A1 l1.length c1] w fun e w'=>∃ v0_ : Value,e = .returned (v0_)∧Kd.V (Kd.int .u8) 5 w' w.heap.size (fun k_=>(w.heap.size≤k_)) v0_ r∧Below w.heap.size w w':=by
 have HR0:=am hr0
 have HC0:=am hc0
 clear hr0 hc0
 have HR1:=am hr1
 have HC1:=am hc1
 clear hr1 hc1
 have HB:=am (Below.refl w.heap.size w)
 have H : (whetstoneref01_plus.l0 k l0 l1 ([] : List Int) 0 0) = some r:=h
 clear h
 have H':=am H
 clear H
 go_enter Tryz.func90,Tryz.ntmps90
 go_wp2
 go_loopg [5,6,7] k (fun kq v5 v6 v7 w'=>∃ (x5_1 : List Int) (x6_1 : Int) (x7_1 : Int),v6 = .int .u8 x6_1∧v7 = .int .i64 x7_1∧Aside0 (whetstoneref01_plus.l0 kq l0 l1 x5_1 x6_1 x7_1 = some r)∧Aside0 (kq≤k)∧Aside0 (Kd.R (Kd.int .u8) 5 w' w.heap.size (fun k_=>(w.heap.size≤k_)) v5 x5_1)∧Aside0 (Below w.heap.size w w'))
 case atStart=>exact⟨(([] : List Int)),(0),(0),ze,ze,H',⟨Nat.le_refl _⟩,⟨by first | exact Kd.R_nil _ _ _ _ _ | exact Kd.N_nil _ _ _ _ _ | exact Kd.V_nil _ _ _ _ _ | exact Kd.Q_nil _ _ _ _ _ | exact Kd.S_nil _ _ _ _ _⟩,⟨zb⟩⟩
 case round=>
  clear H'
  try clear c1
  try clear p2
  obtain⟨x5_1,x6_1,x7_1,rfl,rfl,HA,HK1,HO_5,HB⟩:=hrel
  cases gk with
  | zero=>exact absurd HA.out (by simp [whetstoneref01_plus.l0])
  | succ k1=>
   have H:=HA.out
   clear HA
   simp only [whetstoneref01_plus.l0] at H
   have HC3:=am H
   clear H
   go_upto_region 4 with(fail)
   go_cut [22] (fun v22 wc=>∃ (kq : Nat) (x22_2 : Bool),v22 = .bool x22_2∧Aside0 (whetstoneref01_plus.j1 kq l0 l1 x5_1 x6_1 x7_1 x22_2 = some r)∧Aside0 (kq≤k1)∧Aside0 (Kd.R (Kd.int .u8) 5 wc w.heap.size (fun k_=>(w.heap.size≤k_)) u5 x5_1)∧Aside0 (Below w.heap.size w wc))
   case first=>
    have H:=HC3.out
    clear HC3
    by_cases c4 : x7_1 < (l0.length : Int)
    ·rw [if_pos c4] at H
     have c4b0 : decide (x7_1 < (l0.length : Int)) = true:=decide_eq_true c4
     clear c4
     (first | rw [c4b0] |(simp only [i64_w,i32_w];rw [c4b0]) | rw [c4b1] | skip)
     have H':=am H
     clear H
     go_wp2
     go_meet
     case rel=>exact⟨_,(true),ze,H',⟨by have:=HK1.out;first | omega | exact Nat.le_refl _⟩,⟨zR HO_5.out⟩,⟨zb⟩⟩
    ·rw [if_neg c4] at H
     have c4b0 : decide (x7_1 < (l0.length : Int)) = false:=decide_eq_false c4
     clear c4
     (first | rw [c4b0] |(simp only [i64_w,i32_w];rw [c4b0]) | rw [c4b1] | skip)
     by_cases c5 : x7_1 < (l1.length : Int)
     ·rw [if_pos c5] at H
      have c5b0 : decide (x7_1 < (l1.length : Int)) = true:=decide_eq_true c5
      clear c5
      have H':=am H
      clear H
      go_wp2
      go_meet
      case rel=>exact⟨_,(true),ze,H',⟨by have:=HK1.out;first | omega | exact Nat.le_refl _⟩,⟨zR HO_5.out⟩,⟨zb⟩⟩
     ·rw [if_neg c5] at H
      have c5b0 : decide (x7_1 < (l1.length : Int)) = false:=decide_eq_false c5
      clear c5
      have H':=am H
      clear H
      go_wp2
      go_meet
      case rel=>exact⟨_,(decide (x6_1 > 0)),ze,H',⟨by have:=HK1.out;first | omega | exact Nat.le_refl _⟩,⟨zR HO_5.out⟩,⟨zb⟩⟩
   case rest=>
    clear HC3
    try clear c1
    try clear p2
    try clear c4
    try clear c4b0
    try clear c4b1
    try clear c5
    try clear c5b0
    try clear p2
    obtain⟨kq,x22_2,rfl,HA,HJ2,HO_5,HB⟩:=hcut
    cases kq with
    | zero=>exact absurd HA.out (by simp [whetstoneref01_plus.j1])
    | succ kj2=>
     have H:=HA.out
     clear HA
     simp only [whetstoneref01_plus.j1] at H
     by_cases c6 : x22_2 = true
     ·subst c6
      have H1 : (if x7_1 < (l0.length : Int) then(if 0≤x7_1 then(if x7_1 < (l1.length : Int) then(if x5_1.length < 140737488355328 then(whetstoneref01_plus.l0 kj2 l0 l1 (x5_1 ++ [(((x6_1 + (rd l0 x7_1)) + (rd l1 x7_1)) % 256) % 10]) ((((x6_1 + (rd l0 x7_1)) + (rd l1 x7_1)) % 256) / 10) (wrap64 (x7_1 + 1))) else(none)) else(if x5_1.length < 140737488355328 then(whetstoneref01_plus.l0 kj2 l0 l1 (x5_1 ++ [((x6_1 + (rd l0 x7_1)) % 256) % 10]) (((x6_1 + (rd l0 x7_1)) % 256) / 10) (wrap64 (x7_1 + 1))) else(none))) else(none)) else(if x7_1 < (l1.length : Int) then(if 0≤x7_1 then(if x5_1.length < 140737488355328 then(whetstoneref01_plus.l0 kj2 l0 l1 (x5_1 ++ [((x6_1 + (rd l1 x7_1)) % 256) % 10]) (((x6_1 + (rd l1 x7_1)) % 256) / 10) (wrap64 (x7_1 + 1))) else(none)) else(none)) else(if x5_1.length < 140737488355328 then(whetstoneref01_plus.l0 kj2 l0 l1 (x5_1 ++ [Int.tmod x6_1 10]) ((Int.tdiv x6_1 10) % 256) (wrap64 (x7_1 + 1))) else(none)))) = some r:=by rw [if_pos rfl] at H;exact H
      clear H
      have H:=H1
      clear H1
      by_cases c7 : x7_1 < (l0.length : Int)
      ·rw [if_pos c7] at H
       have c7b0 : decide (x7_1 < (l0.length : Int)) = true:=decide_eq_true c7
       clear c7
       by_cases c8 : 0≤x7_1
       ·rw [if_pos c8] at H
        have c8b0 : decide (0≤x7_1) = true:=decide_eq_true c8
        clear c8
        by_cases c9 : x7_1 < (l1.length : Int)
        ·rw [if_pos c9] at H
         have c9b0 : decide (x7_1 < (l1.length : Int)) = true:=decide_eq_true c9
         clear c9
         by_cases c10 : x5_1.length < 140737488355328
         ·rw [if_pos c10] at H
          have LMc10:=am c10
          clear c10
          obtain⟨y658,hy658⟩ : ∃ y_ : List Int,y_ = (x5_1 ++ [(((x6_1 + (rd l0 x7_1)) + (rd l1 x7_1)) % 256) % 10]):=⟨_,rfl⟩
          replace H : (whetstoneref01_plus.l0 kj2 l0 l1 y658 ((((x6_1 + (rd l0 x7_1)) + (rd l1 x7_1)) % 256) / 10) (wrap64 (x7_1 + 1))) = some r:=by first |(rw [hy658];with_reducible exact H) |(have H2_:=(Option.bind_some _ _).symm.trans H;rw [hy658];with_reducible exact H2_) |(have H2_:=(Option.bind_some _ _).symm.trans H;with_reducible exact H2_) | with_reducible exact H |(rw [hy658];exact H) | exact H
          have Ny658:=am hy658
          clear hy658
          have H':=am H
          clear H
          have p656 : 0≤(x7_1 : Int):=of_decide_eq_true za
          have q656 : x7_1 < (l0.length : Int):=of_decide_eq_true za
          obtain⟨ad656,e656,hx656_0⟩:=Kd.at_int HR0.out x7_1 p656 q656
          cases e656
          replace hx656_0:=(HB.out.cell (World.block_lt_of_cell? w _ hx656_0)).trans hx656_0
          replace p656:=eq_true p656
          replace q656:=eq_true q656
          have p657 : 0≤(x7_1 : Int):=of_decide_eq_true za
          have q657 : x7_1 < (l1.length : Int):=of_decide_eq_true za
          obtain⟨ad657,e657,hx657_0⟩:=Kd.at_int HR1.out x7_1 p657 q657
          cases e657
          replace hx657_0:=(HB.out.cell (World.block_lt_of_cell? w _ hx657_0)).trans hx657_0
          replace p657:=eq_true p657
          replace q657:=eq_true q657
          go_wp2_with (first |((with_reducible refine gate_builtin (b:=.append) (xs:=#[.tmp 46,.tmp 49]) rfl ?_);(try (refine gate_guard (by rfl) ?_;dsimp only));at_builtin;refine Kd.R_append (Kd.int .u8) (w0:=w) w.heap.size rfl (.tmp 46) (.tmp 49) 87 5 (.int .u8 0) 1 rfl Tryz.underlying87 info5 rfl (by decide) (by omega) u5 x5_1 ((((x6_1 + (rd l0 x7_1)) + (rd l1 x7_1)) % 256) % 10) [.int .u8 ((((x6_1 + (rd l0 x7_1)) + (rd l1 x7_1)) % 256) % 10)] (fun k_=>(w.heap.size≤k_)) (fun _=>False) rfl rfl ?aP (fun _ hk=>hk.elim) ?aF ?aO ?aB ?aS ?aL ?_;(case aP=>exact rfl);(case aB=>exact zb);(case aF=>exact(fun k_ hk=>(Nat.le_trans (below_size zb) hk)));(case aO=>exact(zR HO_5.out));(case aS=>exact(below_size zb));(case aL=>have:=LMc10.out;omega);intro v659 w11 ho hb hg hat;rw [← Ny658.out] at ho;replace HB:=am (hb);have HO660:=am (ho);clear HO_5;clear ho hb hg hat))
          go_roundg kj2
          case measure=>have:=HK1.out;have:=HJ2.out;omega
          case rel=>exact⟨(y658),((((x6_1 + (rd l0 x7_1)) + (rd l1 x7_1)) % 256) / 10),(wrap64 (x7_1 + 1)),ze,ze,H',⟨by have:=HK1.out;have:=HJ2.out;omega⟩,⟨zR HO660.out⟩,⟨zb⟩⟩
         ·rw [if_neg c10] at H
          exact absurd H (by simp)
        ·rw [if_neg c9] at H
         have c9b0 : decide (x7_1 < (l1.length : Int)) = false:=decide_eq_false c9
         clear c9
         by_cases c12 : x5_1.length < 140737488355328
         ·rw [if_pos c12] at H
          have LMc12:=am c12
          clear c12
          obtain⟨y661,hy661⟩ : ∃ y_ : List Int,y_ = (x5_1 ++ [((x6_1 + (rd l0 x7_1)) % 256) % 10]):=⟨_,rfl⟩
          replace H : (whetstoneref01_plus.l0 kj2 l0 l1 y661 (((x6_1 + (rd l0 x7_1)) % 256) / 10) (wrap64 (x7_1 + 1))) = some r:=by first |(rw [hy661];with_reducible exact H) |(have H2_:=(Option.bind_some _ _).symm.trans H;rw [hy661];with_reducible exact H2_) |(have H2_:=(Option.bind_some _ _).symm.trans H;with_reducible exact H2_) | with_reducible exact H |(rw [hy661];exact H) | exact H
          have Ny661:=am hy661
          clear hy661
          have H':=am H
          clear H
          have p656 : 0≤(x7_1 : Int):=of_decide_eq_true za
          have q656 : x7_1 < (l0.length : Int):=of_decide_eq_true za
          obtain⟨ad656,e656,hx656_0⟩:=Kd.at_int HR0.out x7_1 p656 q656
          cases e656
          replace hx656_0:=(HB.out.cell (World.block_lt_of_cell? w _ hx656_0)).trans hx656_0
          replace p656:=eq_true p656
          replace q656:=eq_true q656
          go_wp2_with (first |((with_reducible refine gate_builtin (b:=.append) (xs:=#[.tmp 46,.tmp 49]) rfl ?_);(try (refine gate_guard (by rfl) ?_;dsimp only));at_builtin;refine Kd.R_append (Kd.int .u8) (w0:=w) w.heap.size rfl (.tmp 46) (.tmp 49) 87 5 (.int .u8 0) 1 rfl Tryz.underlying87 info5 rfl (by decide) (by omega) u5 x5_1 (((x6_1 + (rd l0 x7_1)) % 256) % 10) [.int .u8 (((x6_1 + (rd l0 x7_1)) % 256) % 10)] (fun k_=>(w.heap.size≤k_)) (fun _=>False) rfl rfl ?aP (fun _ hk=>hk.elim) ?aF ?aO ?aB ?aS ?aL ?_;(case aP=>exact rfl);(case aB=>exact zb);(case aF=>exact(fun k_ hk=>(Nat.le_trans (below_size zb) hk)));(case aO=>exact(zR HO_5.out));(case aS=>exact(below_size zb));(case aL=>have:=LMc12.out;omega);intro v662 w13 ho hb hg hat;rw [← Ny661.out] at ho;replace HB:=am (hb);have HO663:=am (ho);clear HO_5;clear ho hb hg hat))
          go_roundg kj2
          case measure=>have:=HK1.out;have:=HJ2.out;omega
          case rel=>exact⟨(y661),(((x6_1 + (rd l0 x7_1)) % 256) / 10),(wrap64 (x7_1 + 1)),ze,ze,H',⟨by have:=HK1.out;have:=HJ2.out;omega⟩,⟨zR HO663.out⟩,⟨zb⟩⟩
         ·rw [if_neg c12] at H
          exact absurd H (by simp)
       ·rw [if_neg c8] at H
        exact absurd H (by simp)
      ·rw [if_neg c7] at H
       have c7b0 : decide (x7_1 < (l0.length : Int)) = false:=decide_eq_false c7
       clear c7
       by_cases c14 : x7_1 < (l1.length : Int)
       ·rw [if_pos c14] at H
        have c14b0 : decide (x7_1 < (l1.length : Int)) = true:=decide_eq_true c14
        clear c14
        by_cases c15 : 0≤x7_1
        ·rw [if_pos c15] at H
         have c15b0 : decide (0≤x7_1) = true:=decide_eq_true c15
         clear c15
         by_cases c16 : x5_1.length < 140737488355328
         ·rw [if_pos c16] at H
          have LMc16:=am c16
          clear c16
          obtain⟨y665,hy665⟩ : ∃ y_ : List Int,y_ = (x5_1 ++ [((x6_1 + (rd l1 x7_1)) % 256) % 10]):=⟨_,rfl⟩
          replace H : (whetstoneref01_plus.l0 kj2 l0 l1 y665 (((x6_1 + (rd l1 x7_1)) % 256) / 10) (wrap64 (x7_1 + 1))) = some r:=by first |(rw [hy665];with_reducible exact H) |(have H2_:=(Option.bind_some _ _).symm.trans H;rw [hy665];with_reducible exact H2_) |(have H2_:=(Option.bind_some _ _).symm.trans H;with_reducible exact H2_) | with_reducible exact H |(rw [hy665];exact H) | exact H
          have Ny665:=am hy665
          clear hy665
          have H':=am H
          clear H
          have p664 : 0≤(x7_1 : Int):=of_decide_eq_true za
          have q664 : x7_1 < (l1.length : Int):=of_decide_eq_true za
          obtain⟨ad664,e664,hx664_0⟩:=Kd.at_int HR1.out x7_1 p664 q664
          cases e664
          replace hx664_0:=(HB.out.cell (World.block_lt_of_cell? w _ hx664_0)).trans hx664_0
          replace p664:=eq_true p664
          replace q664:=eq_true q664
          go_wp2_with (first |((with_reducible refine gate_builtin (b:=.append) (xs:=#[.tmp 46,.tmp 49]) rfl ?_);(try (refine gate_guard (by rfl) ?_;dsimp only));at_builtin;refine Kd.R_append (Kd.int .u8) (w0:=w) w.heap.size rfl (.tmp 46) (.tmp 49) 87 5 (.int .u8 0) 1 rfl Tryz.underlying87 info5 rfl (by decide) (by omega) u5 x5_1 (((x6_1 + (rd l1 x7_1)) % 256) % 10) [.int .u8 (((x6_1 + (rd l1 x7_1)) % 256) % 10)] (fun k_=>(w.heap.size≤k_)) (fun _=>False) rfl rfl ?aP (fun _ hk=>hk.elim) ?aF ?aO ?aB ?aS ?aL ?_;(case aP=>exact rfl);(case aB=>exact zb);(case aF=>exact(fun k_ hk=>(Nat.le_trans (below_size zb) hk)));(case aO=>exact(zR HO_5.out));(case aS=>exact(below_size zb));(case aL=>have:=LMc16.out;omega);intro v666 w17 ho hb hg hat;rw [← Ny665.out] at ho;replace HB:=am (hb);have HO667:=am (ho);clear HO_5;clear ho hb hg hat))
          go_roundg kj2
          case measure=>have:=HK1.out;have:=HJ2.out;omega
          case rel=>exact⟨(y665),(((x6_1 + (rd l1 x7_1)) % 256) / 10),(wrap64 (x7_1 + 1)),ze,ze,H',⟨by have:=HK1.out;have:=HJ2.out;omega⟩,⟨zR HO667.out⟩,⟨zb⟩⟩
         ·rw [if_neg c16] at H
          exact absurd H (by simp)
        ·rw [if_neg c15] at H
         exact absurd H (by simp)
       ·rw [if_neg c14] at H
        have c14b0 : decide (x7_1 < (l1.length : Int)) = false:=decide_eq_false c14
        clear c14
        by_cases c18 : x5_1.length < 140737488355328
        ·rw [if_pos c18] at H
         have LMc18:=am c18
         clear c18
         obtain⟨y668,hy668⟩ : ∃ y_ : List Int,y_ = (x5_1 ++ [Int.tmod x6_1 10]):=⟨_,rfl⟩
         replace H : (whetstoneref01_plus.l0 kj2 l0 l1 y668 ((Int.tdiv x6_1 10) % 256) (wrap64 (x7_1 + 1))) = some r:=by first |(rw [hy668];with_reducible exact H) |(have H2_:=(Option.bind_some _ _).symm.trans H;rw [hy668];with_reducible exact H2_) |(have H2_:=(Option.bind_some _ _).symm.trans H;with_reducible exact H2_) | with_reducible exact H |(rw [hy668];exact H) | exact H
         have Ny668:=am hy668
         clear hy668
         have H':=am H
         clear H
         go_wp2_with (first |((with_reducible refine gate_builtin (b:=.append) (xs:=#[.tmp 46,.tmp 49]) rfl ?_);(try (refine gate_guard (by rfl) ?_;dsimp only));at_builtin;refine Kd.R_append (Kd.int .u8) (w0:=w) w.heap.size rfl (.tmp 46) (.tmp 49) 87 5 (.int .u8 0) 1 rfl Tryz.underlying87 info5 rfl (by decide) (by omega) u5 x5_1 (Int.tmod x6_1 10) [.int .u8 (Int.tmod x6_1 10)] (fun k_=>(w.heap.size≤k_)) (fun _=>False) rfl rfl ?aP (fun _ hk=>hk.elim) ?aF ?aO ?aB ?aS ?aL ?_;(case aP=>exact rfl);(case aB=>exact zb);(case aF=>exact(fun k_ hk=>(Nat.le_trans (below_size zb) hk)));(case aO=>exact(zR HO_5.out));(case aS=>exact(below_size zb));(case aL=>have:=LMc18.out;omega);intro v669 w19 ho hb hg hat;rw [← Ny668.out] at ho;replace HB:=am (hb);have HO670:=am (ho);clear HO_5;clear ho hb hg hat))
         go_roundg kj2
         case measure=>have:=HK1.out;have:=HJ2.out;omega
         case rel=>exact⟨(y668),((Int.tdiv x6_1 10) % 256),(wrap64 (x7_1 + 1)),ze,ze,H',⟨by have:=HK1.out;have:=HJ2.out;omega⟩,⟨zR HO670.out⟩,⟨zb⟩⟩
        ·rw [if_neg c18] at H
         exact absurd H (by simp)
     ·replace c6:=Bool.eq_false_iff.mpr c6
      subst c6
      have H1 : ((whetstoneref01_trim.f kj2 x5_1).bind fun t653=>(some t653)) = some r:=by rw [if_neg (show ¬ (false = true) by decide)] at H;exact H
      clear H
      have H:=H1
      clear H1
      replace H:=Option.bind_eq_some_iff.mp H
      obtain⟨t653,A200,H⟩:=H
      try dsimp only at H
      have A20:=am A200
      clear A200
      obtain rfl:=Option.some.inj H
      obtain⟨Ao21,co21,eo21⟩:=Kd.R_slice HO_5.out
      subst eo21
      go_wp2_with (first |((with_reducible refine gate_callee (f:=61) rfl ?_);refine goesL_ (some 54) rfl rfl Tryz.func61 (by kernel_rfl) rfl #[.slice Ao21 x5_1.length co21] rfl zl ?_;(with_reducible refine(whetstoneref01_trim.calls kj2 (fun k_=>some k_ = (.slice Ao21 x5_1.length co21 : Value).ownBlock) _ _ x5_1 t653 _ ?side1 A20.out).mono ?_);(case side1=>exact Kd.R_V (Kd.R_tight rfl (HO_5.out)));rintro e w22 ⟨v654,rfl,ho0,hb⟩;refine⟨_,rfl,?_⟩;have HO655:=am (Kd.V_lower (Kd.V_mono (ok':=fun k_=>(w.heap.size≤k_)) ho0 (fun k_ hk_=>Or.elim hk_ (fun hs_=>((HO_5.out).1 k_ hs_.symm)) (fun hn_=>(Nat.le_trans (below_size zb) hn_)))) (below_size zb));replace HO_5:=rb HO_5 hb;replace HB:=am (below_step zb hb);(try clear hb);(try clear ho0)))
      go_ret
      exact⟨_,zf,zV HO655.out,zb⟩

end Go.Proofs.YtcbohpmdeboeoaaGreatDoorRR.X

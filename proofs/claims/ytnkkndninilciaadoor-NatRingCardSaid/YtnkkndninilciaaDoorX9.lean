-- Printed by xprint.py, this session's own program (wip/tool), out of the translation. Lean checks it.
import Derived.Test.YtnkkndninilciaaDoorZ
import Derived.Test.YtnkkndninilciaaDoorX0
import Derived.Test.YtnkkndninilciaaDoorX1
import Derived.Test.YtnkkndninilciaaDoorX4
namespace Go.Proofs.YtnkkndninilciaaDoor.X
open Go.Proofs.YtnkkndninilciaaDoor.Z
open Go.RowKit Go.Proofs.YtnkkndninilciaaDoorW.PrintWords Go.Proofs.YtnkkndninilciaaDoorW.PrintLast Go.Proofs.YtnkkndninilciaaDoorW.PrintMore
open List renaming setIfInBounds_toArray → sA, set_cons_zero → sZ, set_cons_succ → sS
open Aside0 renaming mk → am
open Bool renaming true → tt, false → ff
set_option maxHeartbeats 8000000
set_option maxRecDepth 100000
attribute [local go_sem] max2_int min2_int max_two min_two max_three min_three max_four min_four   -- for this text's walks alone
set_option linter.unusedVariables false
set_option linter.unusedSimpArgs false

/-! ### nat_folded_at_nat_number_times: function 117 -/
def nat_folded_at_nat_number_times.l0 : Nat→List (List Int)→Int→Int→List Int→Option (List Int)
 | 0,_,_,_,_=>none
 | k + 1,x9,x10,x11,x367000=>if x11 < x10 then(if 0≤x11 then(if x11 < (x9.length : Int) then((nat_of.f k (rd_L2 x9 x11)).bind fun t368=>((nat_number_times.f k x367000 t368).bind fun t371=>(nat_folded_at_nat_number_times.l0 k x9 x10 (wrap64 (x11 + 1)) t371))) else(none)) else(none)) else((nat_number_row.f k x367000).bind fun t374=>(some t374))
def nat_folded_at_nat_number_times.f (k : Nat) (l0_0 : List Int)  (l2 : List (List Int)) : Option (List Int):=nat_folded_at_nat_number_times.l0 k l2 (l2.length : Int) 0 l0_0
theorem nat_folded_at_nat_number_times.calls (k : Nat) (P0_0_ : Nat→Prop) (u9000_ : Value) (l0_0 : List Int)  (A2 : Option Addr) (c2 : Nat) (l2 : List (List Int)) (r : List Int) (w0 w : World) (hB : Below w0.heap.size w0 w) (ho0_0 : Kd.R (Kd.int .u64) 55 w w0.heap.size P0_0_ u9000_ l0_0) (hr2 : ∀ W_,Kept w W_ (fun k_=>P0_0_ k_)→Kd.C (Kd.slice 32 (Kd.int .u32)) W_ A2 l2.length l2) (hc2 : l2.length≤c2) (h : nat_folded_at_nat_number_times.f k l0_0 l2 = some r) :
  Calls Tryd.prog 24 #[.agg #[u9000_],.func (.func 29) #[] #[],.slice A2 l2.length c2] w fun e w'=>∃ v0_ : Value,e = .returned (v0_)∧Kd.R (Kd.int .u32) 32 w' w0.heap.size (fun k_=>(P0_0_ k_∨w.heap.size≤k_)) v0_ r∧Below w0.heap.size w0 w'∧Kept w w' (fun k_=>P0_0_ k_):=by
 have hu47:=Tryd.underlying47
 have HO0_0:=am (show Kd.R (Kd.int .u64) 55 w w0.heap.size (fun k_=>(P0_0_ k_∨w.heap.size≤k_)) u9000_ l0_0 from Kd.R_mono ho0_0 (fun k_ hk=>(.inl hk)))
 have HR2:=am hr2
 have HC2:=am hc2
 clear hr2 hc2
 have HK:=am (Kept.refl w (fun k_=>P0_0_ k_))
 have HW0:=am hB.size
 have HB:=am hB
 clear hB
 have H : (nat_folded_at_nat_number_times.l0 k l2 (l2.length : Int) 0 l0_0) = some r:=h
 clear h
 have H':=am H
 clear H
 obtain⟨Ao4,co4,eo4⟩:=Kd.R_slice HO0_0.out
 subst eo4
 go_enter Tryd.func24,Tryd.ntmps24
 go_wp2_with (first |((with_reducible refine gate_dst (N:=3) rfl ?_);refine box_event ?hg (N:=3) ?hd (cs:=#[.slice Ao4 l0_0.length co4]) (t:=47) ?hr ?_;(case hd=>rfl);(case hg=>rfl);(case hr=>exact zh);intro gb366 hg w5 hbox hb;replace HO0_0:=rb HO0_0 hb;have BK366:=am (hbox);have GW366:=am ((by rw [hg];exact(by first | exact HK.out.1 | exact(show Kept w _ (fun k_=>P0_0_ k_) from by repeat (first |(with_reducible first | exact HK.out | apply Kept.alloc | apply Kept.drewN | apply Kept.drew) | exact HK.out)).1) : w.heap.size≤gb366));replace HK:=am (Kept.below (S:=(fun k_=>P0_0_ k_)) (by repeat (first |(with_reducible first | exact HK.out | apply Kept.alloc | apply Kept.drewN | apply Kept.drew) | exact HK.out)) hb);have GE366:=gw w0 hg;replace HB:=am (below_step zb hb);clear hb hbox hg))
 go_loopg [11] k (fun kq v11 w'=>∃ (x11_1 : Int) (x367000_1 : List Int) (u367000 : Value),v11 = .int .i64 x11_1∧Aside0 (nat_folded_at_nat_number_times.l0 kq l2 (l2.length : Int) x11_1 x367000_1 = some r)∧Aside0 (kq≤k)∧Aside0 (Kd.R (Kd.int .u64) 55 w' w0.heap.size (fun k_=>(P0_0_ k_∨w.heap.size≤k_)) u367000 x367000_1)∧Aside0 (w'.heap[gb366]? = some (.cells #[u367000] 47 (0,0)))∧Aside0 (Kept w w' (fun k_=>P0_0_ k_))∧Aside0 (Below w0.heap.size w0 w'))
 case atStart=>exact⟨(0),(l0_0),(.slice Ao4 l0_0.length co4),ze,H',⟨Nat.le_refl _⟩,⟨zR HO0_0.out⟩,⟨zk BK366.out⟩,⟨by repeat (first |(with_reducible first | exact HK.out | apply Kept.alloc | apply Kept.drewN | apply Kept.drew | refine Kept.setCell ?_ (.inr GW366.out) _) | exact HK.out)⟩,⟨zb⟩⟩
 case round=>
  clear H'
  try clear c2
  try clear p2
  obtain⟨x11_1,x367000_1,u367000,rfl,HA,HK1,HO_367000,BK366,HK,HB⟩:=hrel
  cases gk with
  | zero=>exact absurd HA.out (by simp [nat_folded_at_nat_number_times.l0])
  | succ k1=>
   have H:=HA.out
   clear HA
   simp only [nat_folded_at_nat_number_times.l0] at H
   by_cases c6 : x11_1 < (l2.length : Int)
   ·rw [if_pos c6] at H
    have c6b0 : decide (x11_1 < (l2.length : Int)) = true:=decide_eq_true c6
    clear c6
    by_cases c7 : 0≤x11_1
    ·rw [if_pos c7] at H
     have c7b0 : decide (0≤x11_1) = true:=decide_eq_true c7
     clear c7
     by_cases c8 : x11_1 < (l2.length : Int)
     ·rw [if_pos c8] at H
      have c8b0 : decide (x11_1 < (l2.length : Int)) = true:=decide_eq_true c8
      clear c8
      replace H:=Option.bind_eq_some_iff.mp H
      obtain⟨t368,A90,H⟩:=H
      try dsimp only at H
      have A9:=am A90
      clear A90
      replace H:=Option.bind_eq_some_iff.mp H
      obtain⟨t371,A100,H⟩:=H
      try dsimp only at H
      have A10:=am A100
      clear A100
      have H':=am H
      clear H
      have p367 : 0≤(x11_1 : Int):=of_decide_eq_true za
      have q367 : x11_1 < (l2.length : Int):=of_decide_eq_true za
      obtain⟨ad367,A367_0,c367_0,e367,hx367_0,hl367_0,hi367_0⟩:=at_L2 (Kd.C_kept_now HR2.out HK.out) x11_1 p367 q367
      cases e367
      have HR367_0:=am hi367_0
      have HC367_0:=am hl367_0
      clear hi367_0 hl367_0
      replace p367:=eq_true p367
      replace q367:=eq_true q367
      try go_wp2
      replace HO_367000:=am (Kd.R_drew HO_367000.out)
      replace BK366:=am (blk_drew BK366.out)
      replace HR367_0:=am (Kd.C_drew HR367_0.out)
      replace HK:=am (Kept.drew HK.out)
      replace HB:=am (below_drew1 HB.out)
      refine start_ (n:=6) (S:=fun w'=>w'.cell? ⟨gb366,0,none⟩ = some (u367000)) (ds:=[5]) #[ff,ff,ff,ff,ff,ff] (by kernel_rfl) rfl rfl ((blk_cell BK366.out 0).trans rfl) (fun hHeld=>?_)
      generalize wr.drew = w11 at HO_367000 BK366 HR367_0 HK HB hHeld ⊢
      refine pu (i:=0) (N:=some 15) #[tt,ff,ff,ff,ff,ff] (by kernel_rfl) ?_
      refine pu (i:=2) (N:=some 17) #[tt,ff,tt,ff,ff,ff] (by kernel_rfl) ?_
      refine take_ (i:=1) (N:=some 16) (v:=?_) (a':=?_) #[tt,tt,tt,ff,ff,ff] rfl rfl (by kernel_rfl) (fun _ _ _ h=>h) (Or.inl ⟨by rfl,?_⟩) hHeld ?_ ?_
      rotate_left
      ·intro w' s0
       go_simp
       with_reducible rfl
      rotate_left
      ·simp only [Act.put,sA,sZ,sS,i64_w,i32_w]
       rfl
      refine one_ (i:=3) (N:=some 18) #[tt,tt,tt,tt,ff,ff] rfl rfl (by kernel_rfl) (by decide) (fun K hK=>?_)
      refine goesV_ Tryd.func31 (by kernel_rfl) rfl #[.slice A367_0 (rd_L2 l2 x11_1).length c367_0] (by rfl) rfl ⟨_,rfl,rfl⟩ zl ?_
      with_reducible refine(nat_of.calls k1 _ _ (rd_L2 l2 x11_1) t368 _ ?side1 ?side2 A9.out).mono ?_
      (case side1=>repeat (first | exact(by repeat (first |(with_reducible exact HR367_0.out) |(with_reducible refine Kd.C_alloc ?_ _) |(with_reducible refine Kd.C_drewN ?_ _) |(with_reducible refine Kd.C_drew ?_) | exact HR367_0.out)) |(with_reducible refine Kd.C_alloc ?_ _) |(with_reducible refine Kd.C_drewN ?_ _) |(with_reducible refine Kd.C_drew ?_)))
      (case side2=>exact HC367_0.out)
      rintro e w12 ⟨v369,rfl,ho0,hb⟩
      refine⟨_,rfl,?_⟩
      have HO370:=am (Kd.R_lower (Kd.R_new' (Kd.R_newM (M:=fun k_=>(P0_0_ k_∨w.heap.size≤k_)) ho0 (by first | exact HK.out.1 | exact(show Kept w _ (fun k_=>P0_0_ k_) from by repeat (first |(with_reducible first | exact HK.out | apply Kept.alloc | apply Kept.drewN | apply Kept.drew | refine Kept.setCell ?_ (.inr GW366.out) _) | exact HK.out)).1) (fun k_ h_=>.inr h_)) (Kd.R_lt (zR HO_367000.out))) (below_size zb))
      replace HO_367000:=re HO_367000 (Kd.R_base ho0) hb
      replace BK366:=kb BK366 hb
      replace HR367_0:=am (Kd.C_below (by repeat (first |(with_reducible exact HR367_0.out) |(with_reducible refine Kd.C_alloc ?_ _) |(with_reducible refine Kd.C_drewN ?_ _) |(with_reducible refine Kd.C_drew ?_) | exact HR367_0.out)) hb)
      replace HK:=am (Kept.below (S:=(fun k_=>P0_0_ k_)) (by repeat (first |(with_reducible first | exact HK.out | apply Kept.alloc | apply Kept.drewN | apply Kept.drew | refine Kept.setCell ?_ (.inr GW366.out) _) | exact HK.out)) hb)
      replace HB:=am (below_step zb hb)
      (try clear hb)
      (try clear hb2)
      (try clear hk)
      (try clear hi)
      (try clear ho0)
      obtain⟨Ao13,co13,eo13⟩:=Kd.R_slice HO_367000.out
      (first | subst eo13 |(injection eo13 with f1_ f2_ f3_;have f4_:=f1_.symm;have f5_:=f3_.symm;clear f1_ f2_ f3_;subst f4_;subst f5_))
      obtain⟨Ao14,co14,eo14⟩:=Kd.R_slice HO370.out
      (first | subst eo14 |(injection eo14 with f1_ f2_ f3_;have f4_:=f1_.symm;have f5_:=f3_.symm;clear f1_ f2_ f3_;subst f4_;subst f5_))
      refine hK.out _ _ ((blk_cell BK366.out 0).trans rfl) (fun hHeld=>?_)
      clear hK K
      refine norm_ (a':=?_) ?_ ?_
      rotate_left
      ·show Act.put _ (some 18) _ = _
       simp only [Act.put,sA,sZ,sS,i64_w,i32_w]
       rfl
      refine one_ (i:=4) (N:=some 19) #[tt,tt,tt,tt,tt,ff] rfl rfl (by kernel_rfl) (by decide) (fun K hK=>?_)
      refine goesV_ Tryd.func29 (by kernel_rfl) rfl #[.agg #[.slice Ao13 x367000_1.length co13],.agg #[.slice Ao14 t368.length co14]] (by rfl) rfl ⟨_,rfl,rfl⟩ zl ?_
      with_reducible refine(nat_number_times.calls k1 _ _ x367000_1 _ _ t368 t371 _ ?side1 ?side2 ?side3 ?side4 A10.out).mono ?_
      (case side1=>exact zC (Kd.R_reads' HO_367000.out).2.2)
      (case side2=>exact(Kd.R_reads' HO_367000.out).2.1)
      (case side3=>exact zC (Kd.R_reads' HO370.out).2.2)
      (case side4=>exact(Kd.R_reads' HO370.out).2.1)
      rintro e w15 ⟨v372,rfl,ho0,hb⟩
      refine⟨_,rfl,?_⟩
      have HO373:=am (Kd.R_lower (Kd.R_new' (Kd.R_new' (Kd.R_newM (M:=fun k_=>(P0_0_ k_∨w.heap.size≤k_)) ho0 (by first | exact HK.out.1 | exact(show Kept w _ (fun k_=>P0_0_ k_) from by repeat (first |(with_reducible first | exact HK.out | apply Kept.alloc | apply Kept.drewN | apply Kept.drew | refine Kept.setCell ?_ (.inr GW366.out) _) | exact HK.out)).1) (fun k_ h_=>.inr h_)) (Kd.R_lt (zR HO_367000.out))) (Kd.R_lt (zR HO370.out))) (below_size zb))
      replace HO_367000:=re HO_367000 (Kd.R_base ho0) hb
      replace HO370:=re HO370 (Kd.R_base ho0) hb
      replace BK366:=kb BK366 hb
      replace HR367_0:=am (Kd.C_below (by repeat (first |(with_reducible exact HR367_0.out) |(with_reducible refine Kd.C_alloc ?_ _) |(with_reducible refine Kd.C_drewN ?_ _) |(with_reducible refine Kd.C_drew ?_) | exact HR367_0.out)) hb)
      replace HK:=am (Kept.below (S:=(fun k_=>P0_0_ k_)) (by repeat (first |(with_reducible first | exact HK.out | apply Kept.alloc | apply Kept.drewN | apply Kept.drew | refine Kept.setCell ?_ (.inr GW366.out) _) | exact HK.out)) hb)
      replace HB:=am (below_step zb hb)
      (try clear hb)
      (try clear hb2)
      (try clear hk)
      (try clear hi)
      (try clear ho0)
      obtain⟨Ao16,co16,eo16⟩:=Kd.R_slice HO373.out
      (first | subst eo16 |(injection eo16 with f1_ f2_ f3_;have f4_:=f1_.symm;have f5_:=f3_.symm;clear f1_ f2_ f3_;subst f4_;subst f5_))
      refine hK.out _ _ ((blk_cell BK366.out 0).trans rfl) (fun hHeld=>?_)
      clear hK K
      refine norm_ (a':=?_) ?_ ?_
      rotate_left
      ·show Act.put _ (some 19) _ = _
       simp only [Act.put,sA,sZ,sS,i64_w,i32_w]
       rfl
      refine last_ (i:=5) (N:=none) #[tt,tt,tt,tt,tt,tt] rfl rfl (by kernel_rfl) (by decide) (fun K hK=>?_)
      have hs17 : w15.cell? ⟨gb366,0,none⟩ = some (.slice Ao13 x367000_1.length co13):=(blk_cell BK366.out 0).trans rfl
      have hfs17:=blk_frozen BK366.out 0
      refine skip_ (w1:=?_) (by rfl) rfl ?_ ?_
      rotate_left
      ·go_simp
       rfl
      refine hK.out _ _ ?_
      clear hK K
      refine done_ (by kernel_rfl) ?_
      try go_wp2
      go_roundg k1
      case measure=>have:=HK1.out;omega
      case rel=>exact⟨(wrap64 (x11_1 + 1)),(t371),(.slice Ao16 t371.length co16),ze,H',⟨by have:=HK1.out;omega⟩,⟨by refine zR ?_;exact Kd.R_mono (Kd.R_far (p:=⟨gb366,0,none⟩) (Kd.R_types HO373.out BK366.out (by decide)) (fun _ hk=>hk.2) (.slice Ao16 t371.length co16)) (fun _ hk=>hk.1.1.1.1)⟩,⟨by refine zk ?_;refine blk_put (cs:=#[.slice Ao13 x367000_1.length co13]) ?_ 0 _ rfl;refine zk ?_;exact BK366.out⟩,⟨by repeat (first |(with_reducible first | exact HK.out | apply Kept.alloc | apply Kept.drewN | apply Kept.drew | refine Kept.setCell ?_ (.inr GW366.out) _) | exact HK.out)⟩,⟨zb⟩⟩
     ·rw [if_neg c8] at H
      exact absurd H (by simp)
    ·rw [if_neg c7] at H
     exact absurd H (by simp)
   ·rw [if_neg c6] at H
    have c6b0 : decide (x11_1 < (l2.length : Int)) = false:=decide_eq_false c6
    clear c6
    replace H:=Option.bind_eq_some_iff.mp H
    obtain⟨t374,A180,H⟩:=H
    try dsimp only at H
    have A18:=am A180
    clear A180
    obtain rfl:=Option.some.inj H
    have hcz19_0 : wr.cell? ⟨gb366,0,none⟩ = some (u367000):=(blk_cell BK366.out 0).trans rfl
    have hfz19_0:=blk_frozen BK366.out 0
    obtain⟨Ao20,co20,eo20⟩:=Kd.R_slice HO_367000.out
    subst eo20
    go_wp2_with (first |((with_reducible refine gate_dst (N:=22) rfl ?_);refine goesLV_ (some 22) rfl rfl Tryd.func34 (by kernel_rfl) rfl #[.agg #[.slice Ao20 x367000_1.length co20]] ⟨_,rfl,rfl⟩ zl ?_;(with_reducible refine(nat_number_row.calls k1 _ _ x367000_1 t374 _ ?side1 ?side2 A18.out).mono ?_);(case side1=>exact zC (Kd.R_reads' HO_367000.out).2.2);(case side2=>exact(Kd.R_reads' HO_367000.out).2.1);rintro e w21 ⟨v375,rfl,ho0,hb⟩;refine⟨_,rfl,?_⟩;replace HO_367000:=rb HO_367000 hb;have HO376:=am (Kd.R_lower (Kd.R_newM (M:=fun k_=>(P0_0_ k_∨w.heap.size≤k_)) ho0 (by first | exact HK.out.1 | exact(show Kept w _ (fun k_=>P0_0_ k_) from by repeat (first |(with_reducible first | exact HK.out | apply Kept.alloc | apply Kept.drewN | apply Kept.drew | refine Kept.setCell ?_ (.inr GW366.out) _) | exact HK.out)).1) (fun k_ h_=>.inr h_)) (below_size zb));replace BK366:=kb BK366 hb;replace HK:=am (Kept.below (S:=(fun k_=>P0_0_ k_)) (by repeat (first |(with_reducible first | exact HK.out | apply Kept.alloc | apply Kept.drewN | apply Kept.drew | refine Kept.setCell ?_ (.inr GW366.out) _) | exact HK.out)) hb);replace HB:=am (below_step zb hb);(try clear hb);(try clear ho0)))
    go_ret
    exact⟨_,zf,by refine zR ?_;exact Kd.R_mono HO376.out (fun _ hk=>hk.1),zb,by repeat (first |(with_reducible first | exact HK.out | apply Kept.alloc | apply Kept.drewN | apply Kept.drew | refine Kept.setCell ?_ (.inr GW366.out) _) | exact HK.out)⟩

/-! ### nat_Mul: function 13 -/
def nat_Mul.f (k : Nat) (l0 : List (List Int)) : Option (List Int):=(nat_folded_at_nat_number_times.f k (([1] : List Int)) l0).bind fun t380=>(some t380)
theorem nat_Mul.calls (k : Nat) (A0 : Option Addr) (c0 : Nat) (l0 : List (List Int)) (r : List Int) (w : World) (hr0 : Kd.C (Kd.slice 32 (Kd.int .u32)) w A0 l0.length l0) (hc0 : l0.length≤c0) (h : nat_Mul.f k l0 = some r) :
  Calls Tryd.prog 13 #[.slice A0 l0.length c0] w fun e w'=>∃ v0_ : Value,e = .returned (v0_)∧Kd.V (Kd.int .u32) 32 w' w.heap.size (fun k_=>(w.heap.size≤k_)) v0_ r∧Below w.heap.size w w':=by
 have hu47:=Tryd.underlying47
 have HR0:=am hr0
 have HC0:=am hc0
 clear hr0 hc0
 have HB:=am (Below.refl w.heap.size w)
 have H : ((nat_folded_at_nat_number_times.f k (([1] : List Int)) l0).bind fun t380=>(some t380)) = some r:=h
 clear h
 obtain⟨y377,hy377⟩ : ∃ y_ : List Int,y_ = (([1] : List Int)):=⟨_,rfl⟩
 replace H : ((nat_folded_at_nat_number_times.f k y377 l0).bind fun t380=>(some t380)) = some r:=by first |(rw [hy377];with_reducible exact H) |(have H2_:=(Option.bind_some _ _).symm.trans H;rw [hy377];with_reducible exact H2_) |(have H2_:=(Option.bind_some _ _).symm.trans H;with_reducible exact H2_) | with_reducible exact H |(rw [hy377];exact H) | exact H
 have Ny377:=am hy377
 clear hy377
 replace H:=Option.bind_eq_some_iff.mp H
 obtain⟨t380,A20,H⟩:=H
 try dsimp only at H
 have A2:=am A20
 clear A20
 obtain rfl:=Option.some.inj H
 go_enter Tryd.func13,Tryd.ntmps13
 go_wp2_with (first |((with_reducible refine gate_dst (N:=3) rfl ?_);refine Kd.R_lit (Kd.int .u64) _ 55 ?hg (N:=3) ?hd (xs:=([1] : List Int)) (inner:=[.int .u64 1]) (ok:=fun _=>True) (okp:=fun _=>True) ?hr ?hp (fun _ hk=>hk) trivial (Below.refl _ _) (Nat.le_refl _) (by simp) ?_;(case hd=>rfl);(case hg=>rfl);(case hr=>exact zh);(case hp=>exact(Reps.one (show Kd.M (Kd.int .u64) _ _ _ 1 [.int .u64 1] from rfl) (Reps.none _ _)));intro v378 w3 ho4 hb hg_ hnew_;clear hg_ hnew_;(first | rw [← Ny377.out] at ho4 |(simp only [Int.reduceToNat] at ho4;rw [← Ny377.out] at ho4));have HO379:=am (Kd.R_lower (Kd.R_newM (M:=fun k_=>(w.heap.size≤k_)) ho4 (below_size zb) (fun k_ h_=>h_)) (below_size zb));replace HB:=am (below_step zb hb);clear hb ho4;obtain⟨Ao5,co5,eo5⟩:=Kd.R_slice HO379.out;subst eo5) |((with_reducible refine gate_callee (f:=24) rfl ?_);refine goesL_ (some 6) rfl rfl Tryd.func24 (by kernel_rfl) rfl #[.agg #[.slice Ao5 y377.length co5],.func (.func 29) #[] #[],.slice A0 l0.length c0] rfl zl ?_;(with_reducible refine(nat_folded_at_nat_number_times.calls k (fun k_=>some k_ = (.slice Ao5 y377.length co5 : Value).ownBlock) (.slice Ao5 y377.length co5) y377  _ _ l0 t380 w _ ?side1 ?side2 ?side3 ?side4 A2.out).mono ?_);(case side1=>repeat (first |(with_reducible first | exact HB.out | apply below_alloc | apply pw_below_drewN | apply below_drew1) | exact HB.out));(case side2=>exact Kd.R_tight rfl HO379.out);(case side3=>exact Kd.C_kept_came (Kd.heap_slice 32 (Kd.heap_int .u32)) HR0.out zb (fun k_ hs_=>(fun e_=>Kd.R_base HO379.out k_ e_.symm) hs_));(case side4=>exact HC0.out);rintro e w6 ⟨v381,rfl,ho0,hb,hkp⟩;refine⟨_,rfl,?_⟩;have HO382:=am (Kd.R_mono (ok':=fun k_=>(w.heap.size≤k_)) ho0 (fun k_ hk_=>Or.elim hk_ (fun hs_=>(HO379.out.1 k_ (hs_).symm).1) (fun hn_=>(Nat.le_trans (below_size zb) hn_))));replace HB:=am (hb);clear HO379;(try clear hb);(try clear hkp);(try clear ho0)))
 go_ret
 exact⟨_,zf,Kd.R_V (zR HO382.out),zb⟩

end Go.Proofs.YtnkkndninilciaaDoor.X

-- Printed by xprint.py, this session's own program (wip/tool), out of the translation. Lean checks it.
import Derived.Test.YtcbohpmdeboeoaaGreatDoorRRZ
import Derived.Test.YtcbohpmdeboeoaaGreatDoorRRX0
import Derived.Test.YtcbohpmdeboeoaaGreatDoorRRX1
import Derived.Test.YtcbohpmdeboeoaaGreatDoorRRX2
import Derived.Test.YtcbohpmdeboeoaaGreatDoorRRX3
import Derived.Test.YtcbohpmdeboeoaaGreatDoorRRX4
import Derived.Test.YtcbohpmdeboeoaaGreatDoorRRX9
namespace Go.Proofs.YtcbohpmdeboeoaaGreatDoorRR.X
open Go.Proofs.YtcbohpmdeboeoaaGreatDoorRR.Z
open Go.RowKit Go.Proofs.YtcbohpmdeboeoaaGreatDoorRRW.PrintWords Go.Proofs.YtcbohpmdeboeoaaGreatDoorRRW.PrintLast Go.Proofs.YtcbohpmdeboeoaaGreatDoorRRW.PrintMore
open List renaming setIfInBounds_toArray → sA, set_cons_zero → sZ, set_cons_succ → sS
open Aside0 renaming mk → am
open Bool renaming true → tt, false → ff
set_option maxHeartbeats 8000000
set_option maxRecDepth 100000
attribute [local go_sem] max2_int min2_int max_two min_two max_three min_three max_four min_four   -- for this text's walks alone
set_option linter.unusedVariables false
set_option linter.unusedSimpArgs false

/-! ### nat_folded_at_nat_number_plus: function 163 -/
def nat_folded_at_nat_number_plus.l0 : Nat→List (List Int)→Int→Int→List Int→Option (List Int)
 | 0,_,_,_,_=>none
 | k + 1,x9,x10,x11,x398000=>if x11 < x10 then(if 0≤x11 then(if x11 < (x9.length : Int) then((nat_of.f k (rd_L3 x9 x11)).bind fun t399=>((nat_number_plus.f k x398000 t399).bind fun t402=>(nat_folded_at_nat_number_plus.l0 k x9 x10 (wrap64 (x11 + 1)) t402))) else(none)) else(none)) else((nat_number_row.f k x398000).bind fun t405=>(some t405))
def nat_folded_at_nat_number_plus.f (k : Nat) (l0_0 : List Int)  (l2 : List (List Int)) : Option (List Int):=nat_folded_at_nat_number_plus.l0 k l2 (l2.length : Int) 0 l0_0
theorem nat_folded_at_nat_number_plus.calls (k : Nat) (P0_0_ : Nat→Prop) (u9000_ : Value) (l0_0 : List Int)  (A2 : Option Addr) (c2 : Nat) (l2 : List (List Int)) (r : List Int) (w0 w : World) (hB : Below w0.heap.size w0 w) (ho0_0 : Kd.R (Kd.int .u64) 59 w w0.heap.size P0_0_ u9000_ l0_0) (hr2 : ∀ W_,Kept w W_ (fun k_=>P0_0_ k_)→Kd.C (Kd.slice 60 (Kd.int .u32)) W_ A2 l2.length l2) (hc2 : l2.length≤c2) (h : nat_folded_at_nat_number_plus.f k l0_0 l2 = some r) :
  Calls Tryz.prog 86 #[.agg #[u9000_],.func (.func 87) #[] #[],.slice A2 l2.length c2] w fun e w'=>∃ v0_ : Value,e = .returned (v0_)∧Kd.R (Kd.int .u32) 60 w' w0.heap.size (fun k_=>(P0_0_ k_∨w.heap.size≤k_)) v0_ r∧Below w0.heap.size w0 w'∧Kept w w' (fun k_=>P0_0_ k_):=by
 have hu83:=Tryz.underlying83
 have HO0_0:=am (show Kd.R (Kd.int .u64) 59 w w0.heap.size (fun k_=>(P0_0_ k_∨w.heap.size≤k_)) u9000_ l0_0 from Kd.R_mono ho0_0 (fun k_ hk=>(.inl hk)))
 have HR2:=am hr2
 have HC2:=am hc2
 clear hr2 hc2
 have HK:=am (Kept.refl w (fun k_=>P0_0_ k_))
 have HW0:=am hB.size
 have HB:=am hB
 clear hB
 have H : (nat_folded_at_nat_number_plus.l0 k l2 (l2.length : Int) 0 l0_0) = some r:=h
 clear h
 have H':=am H
 clear H
 obtain⟨Ao4,co4,eo4⟩:=Kd.R_slice HO0_0.out
 subst eo4
 go_enter Tryz.func86,Tryz.ntmps86
 go_wp2_with (first |((with_reducible refine gate_dst (N:=3) rfl ?_);refine box_event ?hg (N:=3) ?hd (cs:=#[.slice Ao4 l0_0.length co4]) (t:=83) ?hr ?_;(case hd=>rfl);(case hg=>rfl);(case hr=>exact zh);intro gb397 hg w5 hbox hb;replace HO0_0:=rb HO0_0 hb;have BK397:=am (hbox);have GW397:=am ((by rw [hg];exact(by first | exact HK.out.1 | exact(show Kept w _ (fun k_=>P0_0_ k_) from by repeat (first |(with_reducible first | exact HK.out | apply Kept.alloc | apply Kept.drewN | apply Kept.drew) | exact HK.out)).1) : w.heap.size≤gb397));replace HK:=am (Kept.below (S:=(fun k_=>P0_0_ k_)) (by repeat (first |(with_reducible first | exact HK.out | apply Kept.alloc | apply Kept.drewN | apply Kept.drew) | exact HK.out)) hb);have GE397:=gw w0 hg;replace HB:=am (below_step zb hb);clear hb hbox hg))
 go_loopg [11] k (fun kq v11 w'=>∃ (x11_1 : Int) (x398000_1 : List Int) (u398000 : Value),v11 = .int .i64 x11_1∧Aside0 (nat_folded_at_nat_number_plus.l0 kq l2 (l2.length : Int) x11_1 x398000_1 = some r)∧Aside0 (kq≤k)∧Aside0 (Kd.R (Kd.int .u64) 59 w' w0.heap.size (fun k_=>(P0_0_ k_∨w.heap.size≤k_)) u398000 x398000_1)∧Aside0 (w'.heap[gb397]? = some (.cells #[u398000] 83 (0,0)))∧Aside0 (Kept w w' (fun k_=>P0_0_ k_))∧Aside0 (Below w0.heap.size w0 w'))
 case atStart=>exact⟨(0),(l0_0),(.slice Ao4 l0_0.length co4),ze,H',⟨Nat.le_refl _⟩,⟨zR HO0_0.out⟩,⟨zk BK397.out⟩,⟨by repeat (first |(with_reducible first | exact HK.out | apply Kept.alloc | apply Kept.drewN | apply Kept.drew | refine Kept.setCell ?_ (.inr GW397.out) _) | exact HK.out)⟩,⟨zb⟩⟩
 case round=>
  clear H'
  try clear c2
  try clear p2
  obtain⟨x11_1,x398000_1,u398000,rfl,HA,HK1,HO_398000,BK397,HK,HB⟩:=hrel
  cases gk with
  | zero=>exact absurd HA.out (by simp [nat_folded_at_nat_number_plus.l0])
  | succ k1=>
   have H:=HA.out
   clear HA
   simp only [nat_folded_at_nat_number_plus.l0] at H
   by_cases c6 : x11_1 < (l2.length : Int)
   ·rw [if_pos c6] at H
    have c6b0 : decide (x11_1 < (l2.length : Int)) = true:=decide_eq_true c6
    clear c6
    by_cases c7 : 0≤x11_1
    ·rw [if_pos c7] at H
     have c7b0 : decide (0≤x11_1) = true:=decide_eq_true c7
     clear c7
     by_cases c8 : x11_1 < (l2.length : Int)
     ·rw [if_pos c8] at H
      have c8b0 : decide (x11_1 < (l2.length : Int)) = true:=decide_eq_true c8
      clear c8
      replace H:=Option.bind_eq_some_iff.mp H
      obtain⟨t399,A90,H⟩:=H
      try dsimp only at H
      have A9:=am A90
      clear A90
      replace H:=Option.bind_eq_some_iff.mp H
      obtain⟨t402,A100,H⟩:=H
      try dsimp only at H
      have A10:=am A100
      clear A100
      have H':=am H
      clear H
      have p398 : 0≤(x11_1 : Int):=of_decide_eq_true za
      have q398 : x11_1 < (l2.length : Int):=of_decide_eq_true za
      obtain⟨ad398,A398_0,c398_0,e398,hx398_0,hl398_0,hi398_0⟩:=at_L3 (Kd.C_kept_now HR2.out HK.out) x11_1 p398 q398
      cases e398
      have HR398_0:=am hi398_0
      have HC398_0:=am hl398_0
      clear hi398_0 hl398_0
      replace p398:=eq_true p398
      replace q398:=eq_true q398
      try go_wp2
      replace HO_398000:=am (Kd.R_drew HO_398000.out)
      replace BK397:=am (blk_drew BK397.out)
      replace HR398_0:=am (Kd.C_drew HR398_0.out)
      replace HK:=am (Kept.drew HK.out)
      replace HB:=am (below_drew1 HB.out)
      refine start_ (n:=6) (S:=fun w'=>w'.cell? ⟨gb397,0,none⟩ = some (u398000)) (ds:=[5]) #[ff,ff,ff,ff,ff,ff] (by kernel_rfl) rfl rfl ((blk_cell BK397.out 0).trans rfl) (fun hHeld=>?_)
      generalize wr.drew = w11 at HO_398000 BK397 HR398_0 HK HB hHeld ⊢
      refine pu (i:=0) (N:=some 15) #[tt,ff,ff,ff,ff,ff] (by kernel_rfl) ?_
      refine pu (i:=2) (N:=some 17) #[tt,ff,tt,ff,ff,ff] (by kernel_rfl) ?_
      refine take_ (i:=1) (N:=some 16) (v:=?_) (a':=?_) #[tt,tt,tt,ff,ff,ff] rfl rfl (by kernel_rfl) (fun _ _ _ h=>h) (Or.inl ⟨by rfl,?_⟩) hHeld ?_ ?_
      rotate_left
      ·intro w' s0
       go_simp
       with_reducible rfl
      rotate_left
      ·simp only [Act.put,sA,sZ,sS,i64_w,i32_w]
       rfl
      refine one_ (i:=3) (N:=some 18) #[tt,tt,tt,tt,ff,ff] rfl rfl (by kernel_rfl) (by decide) (fun K hK=>?_)
      refine goesV_ Tryz.func72 (by kernel_rfl) rfl #[.slice A398_0 (rd_L3 l2 x11_1).length c398_0] (by rfl) rfl ⟨_,rfl,rfl⟩ zl ?_
      with_reducible refine(nat_of.calls k1 _ _ (rd_L3 l2 x11_1) t399 _ ?side1 ?side2 A9.out).mono ?_
      (case side1=>repeat (first | exact(by repeat (first |(with_reducible exact HR398_0.out) |(with_reducible refine Kd.C_alloc ?_ _) |(with_reducible refine Kd.C_drewN ?_ _) |(with_reducible refine Kd.C_drew ?_) | exact HR398_0.out)) |(with_reducible refine Kd.C_alloc ?_ _) |(with_reducible refine Kd.C_drewN ?_ _) |(with_reducible refine Kd.C_drew ?_)))
      (case side2=>exact HC398_0.out)
      rintro e w12 ⟨v400,rfl,ho0,hb⟩
      refine⟨_,rfl,?_⟩
      have HO401:=am (Kd.R_lower (Kd.R_new' (Kd.R_newM (M:=fun k_=>(P0_0_ k_∨w.heap.size≤k_)) ho0 (by first | exact HK.out.1 | exact(show Kept w _ (fun k_=>P0_0_ k_) from by repeat (first |(with_reducible first | exact HK.out | apply Kept.alloc | apply Kept.drewN | apply Kept.drew | refine Kept.setCell ?_ (.inr GW397.out) _) | exact HK.out)).1) (fun k_ h_=>.inr h_)) (Kd.R_lt (zR HO_398000.out))) (below_size zb))
      replace HO_398000:=re HO_398000 (Kd.R_base ho0) hb
      replace BK397:=kb BK397 hb
      replace HR398_0:=am (Kd.C_below (by repeat (first |(with_reducible exact HR398_0.out) |(with_reducible refine Kd.C_alloc ?_ _) |(with_reducible refine Kd.C_drewN ?_ _) |(with_reducible refine Kd.C_drew ?_) | exact HR398_0.out)) hb)
      replace HK:=am (Kept.below (S:=(fun k_=>P0_0_ k_)) (by repeat (first |(with_reducible first | exact HK.out | apply Kept.alloc | apply Kept.drewN | apply Kept.drew | refine Kept.setCell ?_ (.inr GW397.out) _) | exact HK.out)) hb)
      replace HB:=am (below_step zb hb)
      (try clear hb)
      (try clear hb2)
      (try clear hk)
      (try clear hi)
      (try clear ho0)
      obtain⟨Ao13,co13,eo13⟩:=Kd.R_slice HO_398000.out
      (first | subst eo13 |(injection eo13 with f1_ f2_ f3_;have f4_:=f1_.symm;have f5_:=f3_.symm;clear f1_ f2_ f3_;subst f4_;subst f5_))
      obtain⟨Ao14,co14,eo14⟩:=Kd.R_slice HO401.out
      (first | subst eo14 |(injection eo14 with f1_ f2_ f3_;have f4_:=f1_.symm;have f5_:=f3_.symm;clear f1_ f2_ f3_;subst f4_;subst f5_))
      refine hK.out _ _ ((blk_cell BK397.out 0).trans rfl) (fun hHeld=>?_)
      clear hK K
      refine norm_ (a':=?_) ?_ ?_
      rotate_left
      ·show Act.put _ (some 18) _ = _
       simp only [Act.put,sA,sZ,sS,i64_w,i32_w]
       rfl
      refine one_ (i:=4) (N:=some 19) #[tt,tt,tt,tt,tt,ff] rfl rfl (by kernel_rfl) (by decide) (fun K hK=>?_)
      refine goesV_ Tryz.func87 (by kernel_rfl) rfl #[.agg #[.slice Ao13 x398000_1.length co13],.agg #[.slice Ao14 t399.length co14]] (by rfl) rfl ⟨_,rfl,rfl⟩ zl ?_
      with_reducible refine(nat_number_plus.calls k1 _ _ x398000_1 _ _ t399 t402 _ ?side1 ?side2 ?side3 ?side4 A10.out).mono ?_
      (case side1=>exact zC (Kd.R_reads' HO_398000.out).2.2)
      (case side2=>exact(Kd.R_reads' HO_398000.out).2.1)
      (case side3=>exact zC (Kd.R_reads' HO401.out).2.2)
      (case side4=>exact(Kd.R_reads' HO401.out).2.1)
      rintro e w15 ⟨v403,rfl,ho0,hb⟩
      refine⟨_,rfl,?_⟩
      have HO404:=am (Kd.R_lower (Kd.R_new' (Kd.R_new' (Kd.R_newM (M:=fun k_=>(P0_0_ k_∨w.heap.size≤k_)) ho0 (by first | exact HK.out.1 | exact(show Kept w _ (fun k_=>P0_0_ k_) from by repeat (first |(with_reducible first | exact HK.out | apply Kept.alloc | apply Kept.drewN | apply Kept.drew | refine Kept.setCell ?_ (.inr GW397.out) _) | exact HK.out)).1) (fun k_ h_=>.inr h_)) (Kd.R_lt (zR HO_398000.out))) (Kd.R_lt (zR HO401.out))) (below_size zb))
      replace HO_398000:=re HO_398000 (Kd.R_base ho0) hb
      replace HO401:=re HO401 (Kd.R_base ho0) hb
      replace BK397:=kb BK397 hb
      replace HR398_0:=am (Kd.C_below (by repeat (first |(with_reducible exact HR398_0.out) |(with_reducible refine Kd.C_alloc ?_ _) |(with_reducible refine Kd.C_drewN ?_ _) |(with_reducible refine Kd.C_drew ?_) | exact HR398_0.out)) hb)
      replace HK:=am (Kept.below (S:=(fun k_=>P0_0_ k_)) (by repeat (first |(with_reducible first | exact HK.out | apply Kept.alloc | apply Kept.drewN | apply Kept.drew | refine Kept.setCell ?_ (.inr GW397.out) _) | exact HK.out)) hb)
      replace HB:=am (below_step zb hb)
      (try clear hb)
      (try clear hb2)
      (try clear hk)
      (try clear hi)
      (try clear ho0)
      obtain⟨Ao16,co16,eo16⟩:=Kd.R_slice HO404.out
      (first | subst eo16 |(injection eo16 with f1_ f2_ f3_;have f4_:=f1_.symm;have f5_:=f3_.symm;clear f1_ f2_ f3_;subst f4_;subst f5_))
      refine hK.out _ _ ((blk_cell BK397.out 0).trans rfl) (fun hHeld=>?_)
      clear hK K
      refine norm_ (a':=?_) ?_ ?_
      rotate_left
      ·show Act.put _ (some 19) _ = _
       simp only [Act.put,sA,sZ,sS,i64_w,i32_w]
       rfl
      refine last_ (i:=5) (N:=none) #[tt,tt,tt,tt,tt,tt] rfl rfl (by kernel_rfl) (by decide) (fun K hK=>?_)
      have hs17 : w15.cell? ⟨gb397,0,none⟩ = some (.slice Ao13 x398000_1.length co13):=(blk_cell BK397.out 0).trans rfl
      have hfs17:=blk_frozen BK397.out 0
      refine skip_ (w1:=?_) (by rfl) rfl ?_ ?_
      rotate_left
      ·go_simp
       rfl
      refine hK.out _ _ ?_
      clear hK K
      refine done_ (by kernel_rfl) ?_
      try go_wp2
      go_roundg k1
      case measure=>have:=HK1.out;omega
      case rel=>exact⟨(wrap64 (x11_1 + 1)),(t402),(.slice Ao16 t402.length co16),ze,H',⟨by have:=HK1.out;omega⟩,⟨by refine zR ?_;exact Kd.R_mono (Kd.R_far (p:=⟨gb397,0,none⟩) (Kd.R_types HO404.out BK397.out (by decide)) (fun _ hk=>hk.2) (.slice Ao16 t402.length co16)) (fun _ hk=>hk.1.1.1.1)⟩,⟨by refine zk ?_;refine blk_put (cs:=#[.slice Ao13 x398000_1.length co13]) ?_ 0 _ rfl;refine zk ?_;exact BK397.out⟩,⟨by repeat (first |(with_reducible first | exact HK.out | apply Kept.alloc | apply Kept.drewN | apply Kept.drew | refine Kept.setCell ?_ (.inr GW397.out) _) | exact HK.out)⟩,⟨zb⟩⟩
     ·rw [if_neg c8] at H
      exact absurd H (by simp)
    ·rw [if_neg c7] at H
     exact absurd H (by simp)
   ·rw [if_neg c6] at H
    have c6b0 : decide (x11_1 < (l2.length : Int)) = false:=decide_eq_false c6
    clear c6
    replace H:=Option.bind_eq_some_iff.mp H
    obtain⟨t405,A180,H⟩:=H
    try dsimp only at H
    have A18:=am A180
    clear A180
    obtain rfl:=Option.some.inj H
    have hcz19_0 : wr.cell? ⟨gb397,0,none⟩ = some (u398000):=(blk_cell BK397.out 0).trans rfl
    have hfz19_0:=blk_frozen BK397.out 0
    obtain⟨Ao20,co20,eo20⟩:=Kd.R_slice HO_398000.out
    subst eo20
    go_wp2_with (first |((with_reducible refine gate_dst (N:=22) rfl ?_);refine goesLV_ (some 22) rfl rfl Tryz.func58 (by kernel_rfl) rfl #[.agg #[.slice Ao20 x398000_1.length co20]] ⟨_,rfl,rfl⟩ zl ?_;(with_reducible refine(nat_number_row.calls k1 _ _ x398000_1 t405 _ ?side1 ?side2 A18.out).mono ?_);(case side1=>exact zC (Kd.R_reads' HO_398000.out).2.2);(case side2=>exact(Kd.R_reads' HO_398000.out).2.1);rintro e w21 ⟨v406,rfl,ho0,hb⟩;refine⟨_,rfl,?_⟩;replace HO_398000:=rb HO_398000 hb;have HO407:=am (Kd.R_lower (Kd.R_newM (M:=fun k_=>(P0_0_ k_∨w.heap.size≤k_)) ho0 (by first | exact HK.out.1 | exact(show Kept w _ (fun k_=>P0_0_ k_) from by repeat (first |(with_reducible first | exact HK.out | apply Kept.alloc | apply Kept.drewN | apply Kept.drew | refine Kept.setCell ?_ (.inr GW397.out) _) | exact HK.out)).1) (fun k_ h_=>.inr h_)) (below_size zb));replace BK397:=kb BK397 hb;replace HK:=am (Kept.below (S:=(fun k_=>P0_0_ k_)) (by repeat (first |(with_reducible first | exact HK.out | apply Kept.alloc | apply Kept.drewN | apply Kept.drew | refine Kept.setCell ?_ (.inr GW397.out) _) | exact HK.out)) hb);replace HB:=am (below_step zb hb);(try clear hb);(try clear ho0)))
    go_ret
    exact⟨_,zf,by refine zR ?_;exact Kd.R_mono HO407.out (fun _ hk=>hk.1),zb,by repeat (first |(with_reducible first | exact HK.out | apply Kept.alloc | apply Kept.drewN | apply Kept.drew | refine Kept.setCell ?_ (.inr GW397.out) _) | exact HK.out)⟩

/-! ### nat_Add: function 65 -/
def nat_Add.f (k : Nat) (l0 : List (List Int)) : Option (List Int):=(nat_folded_at_nat_number_plus.f k ([] : List Int) l0).bind fun t408=>(some t408)
theorem nat_Add.calls (k : Nat) (A0 : Option Addr) (c0 : Nat) (l0 : List (List Int)) (r : List Int) (w : World) (hr0 : Kd.C (Kd.slice 60 (Kd.int .u32)) w A0 l0.length l0) (hc0 : l0.length≤c0) (h : nat_Add.f k l0 = some r) :
  Calls Tryz.prog 65 #[.slice A0 l0.length c0] w fun e w'=>∃ v0_ : Value,e = .returned (v0_)∧Kd.R (Kd.int .u32) 60 w' w.heap.size (fun _=>True) v0_ r∧Below w.heap.size w w':=by
 have hu83:=Tryz.underlying83
 have HR0:=am hr0
 have HC0:=am hc0
 clear hr0 hc0
 have HB:=am (Below.refl w.heap.size w)
 have H : ((nat_folded_at_nat_number_plus.f k ([] : List Int) l0).bind fun t408=>(some t408)) = some r:=h
 clear h
 replace H:=Option.bind_eq_some_iff.mp H
 obtain⟨t408,A20,H⟩:=H
 try dsimp only at H
 have A2:=am A20
 clear A20
 obtain rfl:=Option.some.inj H
 go_enter Tryz.func65,Tryz.ntmps65
 go_wp2_with (first |((with_reducible refine gate_callee (f:=86) rfl ?_);refine goesL_ (some 5) rfl rfl Tryz.func86 (by kernel_rfl) rfl #[.agg #[.slice none 0 0],.func (.func 87) #[] #[],.slice A0 l0.length c0] rfl zl ?_;(refine(nat_folded_at_nat_number_plus.calls k (fun k_=>some k_ = (.slice none 0 0 : Value).ownBlock) (.slice none 0 0) ([] : List Int)  _ _ l0 t408 w _ ?side1 ?side2 ?side3 ?side4 A2.out).mono ?_);(case side1=>repeat (first |(with_reducible first | exact HB.out | apply below_alloc | apply pw_below_drewN | apply below_drew1) | exact HB.out));(case side2=>exact Kd.R_nil _ _ _ _ _);(case side3=>exact Kd.C_kept_came (Kd.heap_slice 60 (Kd.heap_int .u32)) HR0.out zb (fun k_ hs_=>(fun e_=>by simp [Value.ownBlock] at e_) hs_));(case side4=>exact HC0.out);rintro e w3 ⟨v409,rfl,ho0,hb,hkp⟩;refine⟨_,rfl,?_⟩;have HO410:=am (Kd.R_mono (ok':=fun k_=>True) ho0 (fun k_ hk_=>trivial));replace HB:=am (hb);(try clear hb);(try clear hkp);(try clear ho0)))
 go_ret
 exact⟨_,zf,zR HO410.out,zb⟩

/-! ### nat_Sub: function 66 -/
def nat_Sub.f (k : Nat) (l0 : List Int) (l1 : List Int) : Option (List Int×Bool):=(nat_of.f k l0).bind fun t411=>((nat_of.f k l1).bind fun t414=>((nat_number_compare.f k t411 t414).bind fun t419=>(if t419 < 0 then(some (([] : List Int),false)) else((nat_number_less.f k t411 t414).bind fun t420=>((nat_number_row.f k t420).bind fun t423=>(some (t423,true)))))))
theorem nat_Sub.calls (k : Nat) (A0 : Option Addr) (c0 : Nat) (l0 : List Int) (A1 : Option Addr) (c1 : Nat) (l1 : List Int) (r1 : List Int) (r2 : Bool) (w : World) (hr0 : Kd.C (Kd.int .u32) w A0 l0.length l0) (hc0 : l0.length≤c0) (hr1 : Kd.C (Kd.int .u32) w A1 l1.length l1) (hc1 : l1.length≤c1) (h : nat_Sub.f k l0 l1 = some (r1,r2)) :
  Calls Tryz.prog 66 #[.slice A0 l0.length c0,.slice A1 l1.length c1] w fun e w'=>∃ v0_ : Value,e = .returned (.tuple #[v0_,.bool r2])∧Kd.R (Kd.int .u32) 60 w' w.heap.size (fun _=>True) v0_ r1∧Below w.heap.size w w':=by
 have hu83:=Tryz.underlying83
 have HR0:=am hr0
 have HC0:=am hc0
 clear hr0 hc0
 have HR1:=am hr1
 have HC1:=am hc1
 clear hr1 hc1
 have HB:=am (Below.refl w.heap.size w)
 have H : ((nat_of.f k l0).bind fun t411=>((nat_of.f k l1).bind fun t414=>((nat_number_compare.f k t411 t414).bind fun t419=>(if t419 < 0 then(some (([] : List Int),false)) else((nat_number_less.f k t411 t414).bind fun t420=>((nat_number_row.f k t420).bind fun t423=>(some (t423,true)))))))) = some (r1,r2):=h
 clear h
 replace H:=Option.bind_eq_some_iff.mp H
 obtain⟨t411,A30,H⟩:=H
 try dsimp only at H
 have A3:=am A30
 clear A30
 replace H:=Option.bind_eq_some_iff.mp H
 obtain⟨t414,A40,H⟩:=H
 try dsimp only at H
 have A4:=am A40
 clear A40
 replace H:=Option.bind_eq_some_iff.mp H
 obtain⟨t419,A50,H⟩:=H
 try dsimp only at H
 have A5:=am A50
 clear A50
 by_cases c6 : t419 < 0
 ·rw [if_pos c6] at H
  have c6b0 : decide (t419 < 0) = true:=decide_eq_true c6
  clear c6
  simp only [Option.some.injEq,Prod.mk.injEq] at H
  obtain⟨rfl,rfl⟩:=H
  go_enter Tryz.func66,Tryz.ntmps66
  go_wp2_with (first |((with_reducible refine gate_callee (f:=72) rfl ?_);refine goesL_ (some 9) rfl rfl Tryz.func72 (by kernel_rfl) rfl #[.slice A0 l0.length c0] rfl zl ?_;(with_reducible refine(nat_of.calls k _ _ l0 t411 _ ?side1 ?side2 A3.out).mono ?_);(case side1=>exact zC HR0.out);(case side2=>exact HC0.out);rintro e w7 ⟨v412,rfl,ho0,hb⟩;refine⟨_,rfl,?_⟩;have HO413:=am (Kd.R_lower ho0 (below_size zb));replace HB:=am (below_step zb hb);(try clear hb);(try clear ho0)) |((with_reducible refine gate_callee (f:=72) rfl ?_);refine goesL_ (some 11) rfl rfl Tryz.func72 (by kernel_rfl) rfl #[.slice A1 l1.length c1] rfl zl ?_;(with_reducible refine(nat_of.calls k _ _ l1 t414 _ ?side1 ?side2 A4.out).mono ?_);(case side1=>repeat (first | exact(Kd.C_below HR1.out HB.out) |(with_reducible refine Kd.C_alloc ?_ _) |(with_reducible refine Kd.C_drewN ?_ _) |(with_reducible refine Kd.C_drew ?_)));(case side2=>exact HC1.out);rintro e w8 ⟨v415,rfl,ho0,hb⟩;refine⟨_,rfl,?_⟩;have HO416:=am (Kd.R_lower (Kd.R_new' ho0 (Kd.R_lt (zR HO413.out))) (below_size zb));replace HO413:=re HO413 (Kd.R_base ho0) hb;replace HB:=am (below_step zb hb);(try clear hb);(try clear ho0)) |((with_reducible refine gate_dst (N:=6) rfl ?_);refine box_event ?hg (N:=6) ?hd (cs:=#[.slice none 0 0]) (t:=83) ?hr ?_;(case hd=>rfl);(case hg=>rfl);(case hr=>exact zh);intro gb417 hg w9 hbox hb;replace HO413:=rb HO413 hb;replace HO416:=rb HO416 hb;have BK417:=am (hbox);have GW417:=gw w hg;have GE417:=gw w hg;replace HB:=am (below_step zb hb);clear hb hbox hg) |((with_reducible refine gate_dst (N:=7) rfl ?_);refine box_event ?hg (N:=7) ?hd (cs:=#[.slice none 0 0]) (t:=83) ?hr ?_;(case hd=>rfl);(case hg=>rfl);(case hr=>exact zh);intro gb418 hg w10 hbox hb;replace HO413:=rb HO413 hb;replace HO416:=rb HO416 hb;have BK418:=am (hbox);have GW418:=gw w hg;have GE418:=gw w hg;replace HB:=am (below_step zb hb);have NB417_418:=nl BK417 hg;have NB418_417:=nr BK417 hg;replace BK417:=kb BK417 hb;clear hb hbox hg;obtain⟨Ao11,co11,eo11⟩:=Kd.R_slice HO413.out;subst eo11;have hnb12:=NB417_418.out;have hnc12:=NB418_417.out;have hcz13_0 : w10.cell? ⟨gb417,0,none⟩ = some (.slice none 0 0):=(blk_cell BK417.out 0).trans rfl;have hfz13_0:=blk_frozen BK417.out 0;obtain⟨Ao14,co14,eo14⟩:=Kd.R_slice HO416.out;subst eo14;have hcz15_0 : w10.cell? ⟨gb418,0,none⟩ = some (.slice none 0 0):=(blk_cell BK418.out 0).trans rfl;have hfz15_0:=blk_frozen BK418.out 0) |((with_reducible refine gate_callee (f:=88) rfl ?_);refine goesL_ (some 14) rfl rfl Tryz.func88 (by kernel_rfl) rfl #[.agg #[.slice Ao11 t411.length co11],.agg #[.slice Ao14 t414.length co14]] rfl zl ?_;(with_reducible refine(nat_number_compare.calls k _ _ t411 _ _ t414 t419 _ ?side1 ?side2 ?side3 ?side4 A5.out).mono ?_);(case side1=>refine(Kd.R_reads' (e:=59) (base:=w.heap.size) (ok:=fun k_=>(True∧some k_≠(.slice Ao14 t414.length co14 : Value).ownBlock)) (n:=t411.length) (c:=co11) ?_).2.2;exact(by refine zR ?_;exact(Kd.R_mono (Kd.R_mono (Kd.R_far (p:=⟨gb418,0,none⟩) (Kd.R_far (p:=⟨gb417,0,none⟩) (Kd.R_types (Kd.R_types HO413.out BK417.out (by decide)) BK418.out (by decide)) (fun _ hk=>hk.1.2) (.slice Ao11 t411.length co11)) (fun _ hk=>hk.2) (.slice Ao14 t414.length co14)) (fun _ h_=>h_.1)) (fun _ h_=>h_.1))));(case side2=>exact(Kd.R_reads' HO413.out).2.1);(case side3=>refine(Kd.R_reads' (e:=59) (base:=w.heap.size) (ok:=fun k_=>(True∧some k_≠(.slice Ao11 t411.length co11 : Value).ownBlock)) (n:=t414.length) (c:=co14) ?_).2.2;exact(by refine zR ?_;exact(Kd.R_mono (Kd.R_mono (Kd.R_far (p:=⟨gb418,0,none⟩) (Kd.R_far (p:=⟨gb417,0,none⟩) (Kd.R_types (Kd.R_types HO416.out BK417.out (by decide)) BK418.out (by decide)) (fun _ hk=>hk.1.2) (.slice Ao11 t411.length co11)) (fun _ hk=>hk.2) (.slice Ao14 t414.length co14)) (fun _ h_=>h_.1)) (fun _ h_=>h_.1))));(case side4=>exact(Kd.R_reads' HO416.out).2.1);rintro e w16 ⟨rfl,hb⟩;refine⟨_,rfl,?_⟩;replace HO413:=am (Kd.R_below (by refine zR ?_;exact(Kd.R_mono (Kd.R_mono (Kd.R_far (p:=⟨gb418,0,none⟩) (Kd.R_far (p:=⟨gb417,0,none⟩) (Kd.R_types (Kd.R_types HO413.out BK417.out (by decide)) BK418.out (by decide)) (fun _ hk=>hk.1.2) (.slice Ao11 t411.length co11)) (fun _ hk=>hk.2) (.slice Ao14 t414.length co14)) (fun _ h_=>h_.1)) (fun _ h_=>h_.1))) hb);replace HO416:=am (Kd.R_below (by refine zR ?_;exact(Kd.R_mono (Kd.R_mono (Kd.R_far (p:=⟨gb418,0,none⟩) (Kd.R_far (p:=⟨gb417,0,none⟩) (Kd.R_types (Kd.R_types HO416.out BK417.out (by decide)) BK418.out (by decide)) (fun _ hk=>hk.1.2) (.slice Ao11 t411.length co11)) (fun _ hk=>hk.2) (.slice Ao14 t414.length co14)) (fun _ h_=>h_.1)) (fun _ h_=>h_.1))) hb);replace BK417:=am (blk_below (g:=gb417) (o:=.cells #[.slice Ao11 t411.length co11] 83 (0,0)) (by refine zk ?_;refine blk_far ?_ NB417_418.out _;refine zk ?_;refine blk_put (cs:=#[.slice none 0 0]) ?_ 0 _ rfl;refine zk ?_;exact BK417.out) hb);replace BK418:=am (blk_below (g:=gb418) (o:=.cells #[.slice Ao14 t414.length co14] 83 (0,0)) (by refine zk ?_;refine blk_put (cs:=#[.slice none 0 0]) ?_ 0 _ rfl;refine zk ?_;refine blk_far ?_ NB418_417.out _;refine zk ?_;exact BK418.out) hb);replace HB:=am (below_step zb hb);(try clear hb);skip))
  go_ret2
  exact⟨_,zf,by first | exact Kd.R_nil _ _ _ _ _ | exact Kd.N_nil _ _ _ _ _ | exact Kd.V_nil _ _ _ _ _ | exact Kd.Q_nil _ _ _ _ _ | exact Kd.S_nil _ _ _ _ _,zb⟩
 ·rw [if_neg c6] at H
  have c6b0 : decide (t419 < 0) = false:=decide_eq_false c6
  clear c6
  replace H:=Option.bind_eq_some_iff.mp H
  obtain⟨t420,A170,H⟩:=H
  try dsimp only at H
  have A17:=am A170
  clear A170
  replace H:=Option.bind_eq_some_iff.mp H
  obtain⟨t423,A180,H⟩:=H
  try dsimp only at H
  have A18:=am A180
  clear A180
  simp only [Option.some.injEq,Prod.mk.injEq] at H
  obtain⟨rfl,rfl⟩:=H
  go_enter Tryz.func66,Tryz.ntmps66
  go_wp2_with (first |((with_reducible refine gate_callee (f:=72) rfl ?_);refine goesL_ (some 9) rfl rfl Tryz.func72 (by kernel_rfl) rfl #[.slice A0 l0.length c0] rfl zl ?_;(with_reducible refine(nat_of.calls k _ _ l0 t411 _ ?side1 ?side2 A3.out).mono ?_);(case side1=>exact zC HR0.out);(case side2=>exact HC0.out);rintro e w19 ⟨v412,rfl,ho0,hb⟩;refine⟨_,rfl,?_⟩;have HO413:=am (Kd.R_lower ho0 (below_size zb));replace HB:=am (below_step zb hb);(try clear hb);(try clear ho0)) |((with_reducible refine gate_callee (f:=72) rfl ?_);refine goesL_ (some 11) rfl rfl Tryz.func72 (by kernel_rfl) rfl #[.slice A1 l1.length c1] rfl zl ?_;(with_reducible refine(nat_of.calls k _ _ l1 t414 _ ?side1 ?side2 A4.out).mono ?_);(case side1=>repeat (first | exact(Kd.C_below HR1.out HB.out) |(with_reducible refine Kd.C_alloc ?_ _) |(with_reducible refine Kd.C_drewN ?_ _) |(with_reducible refine Kd.C_drew ?_)));(case side2=>exact HC1.out);rintro e w20 ⟨v415,rfl,ho0,hb⟩;refine⟨_,rfl,?_⟩;have HO416:=am (Kd.R_lower (Kd.R_new' ho0 (Kd.R_lt (zR HO413.out))) (below_size zb));replace HO413:=re HO413 (Kd.R_base ho0) hb;replace HB:=am (below_step zb hb);(try clear hb);(try clear ho0)) |((with_reducible refine gate_dst (N:=6) rfl ?_);refine box_event ?hg (N:=6) ?hd (cs:=#[.slice none 0 0]) (t:=83) ?hr ?_;(case hd=>rfl);(case hg=>rfl);(case hr=>exact zh);intro gb417 hg w21 hbox hb;replace HO413:=rb HO413 hb;replace HO416:=rb HO416 hb;have BK417:=am (hbox);have GW417:=gw w hg;have GE417:=gw w hg;replace HB:=am (below_step zb hb);clear hb hbox hg) |((with_reducible refine gate_dst (N:=7) rfl ?_);refine box_event ?hg (N:=7) ?hd (cs:=#[.slice none 0 0]) (t:=83) ?hr ?_;(case hd=>rfl);(case hg=>rfl);(case hr=>exact zh);intro gb418 hg w22 hbox hb;replace HO413:=rb HO413 hb;replace HO416:=rb HO416 hb;have BK418:=am (hbox);have GW418:=gw w hg;have GE418:=gw w hg;replace HB:=am (below_step zb hb);have NB417_418:=nl BK417 hg;have NB418_417:=nr BK417 hg;replace BK417:=kb BK417 hb;clear hb hbox hg;obtain⟨Ao23,co23,eo23⟩:=Kd.R_slice HO413.out;subst eo23;have hnb24:=NB417_418.out;have hnc24:=NB418_417.out;have hcz25_0 : w22.cell? ⟨gb417,0,none⟩ = some (.slice none 0 0):=(blk_cell BK417.out 0).trans rfl;have hfz25_0:=blk_frozen BK417.out 0;obtain⟨Ao26,co26,eo26⟩:=Kd.R_slice HO416.out;subst eo26;have hcz27_0 : w22.cell? ⟨gb418,0,none⟩ = some (.slice none 0 0):=(blk_cell BK418.out 0).trans rfl;have hfz27_0:=blk_frozen BK418.out 0) |((with_reducible refine gate_callee (f:=88) rfl ?_);refine goesL_ (some 14) rfl rfl Tryz.func88 (by kernel_rfl) rfl #[.agg #[.slice Ao23 t411.length co23],.agg #[.slice Ao26 t414.length co26]] rfl zl ?_;(with_reducible refine(nat_number_compare.calls k _ _ t411 _ _ t414 t419 _ ?side1 ?side2 ?side3 ?side4 A5.out).mono ?_);(case side1=>refine(Kd.R_reads' (e:=59) (base:=w.heap.size) (ok:=fun k_=>(True∧some k_≠(.slice Ao26 t414.length co26 : Value).ownBlock)) (n:=t411.length) (c:=co23) ?_).2.2;exact(by refine zR ?_;exact(Kd.R_mono (Kd.R_mono (Kd.R_far (p:=⟨gb418,0,none⟩) (Kd.R_far (p:=⟨gb417,0,none⟩) (Kd.R_types (Kd.R_types HO413.out BK417.out (by decide)) BK418.out (by decide)) (fun _ hk=>hk.1.2) (.slice Ao23 t411.length co23)) (fun _ hk=>hk.2) (.slice Ao26 t414.length co26)) (fun _ h_=>h_.1)) (fun _ h_=>h_.1))));(case side2=>exact(Kd.R_reads' HO413.out).2.1);(case side3=>refine(Kd.R_reads' (e:=59) (base:=w.heap.size) (ok:=fun k_=>(True∧some k_≠(.slice Ao23 t411.length co23 : Value).ownBlock)) (n:=t414.length) (c:=co26) ?_).2.2;exact(by refine zR ?_;exact(Kd.R_mono (Kd.R_mono (Kd.R_far (p:=⟨gb418,0,none⟩) (Kd.R_far (p:=⟨gb417,0,none⟩) (Kd.R_types (Kd.R_types HO416.out BK417.out (by decide)) BK418.out (by decide)) (fun _ hk=>hk.1.2) (.slice Ao23 t411.length co23)) (fun _ hk=>hk.2) (.slice Ao26 t414.length co26)) (fun _ h_=>h_.1)) (fun _ h_=>h_.1))));(case side4=>exact(Kd.R_reads' HO416.out).2.1);rintro e w28 ⟨rfl,hb⟩;refine⟨_,rfl,?_⟩;replace HO413:=am (Kd.R_below (by refine zR ?_;exact(Kd.R_mono (Kd.R_mono (Kd.R_far (p:=⟨gb418,0,none⟩) (Kd.R_far (p:=⟨gb417,0,none⟩) (Kd.R_types (Kd.R_types HO413.out BK417.out (by decide)) BK418.out (by decide)) (fun _ hk=>hk.1.2) (.slice Ao23 t411.length co23)) (fun _ hk=>hk.2) (.slice Ao26 t414.length co26)) (fun _ h_=>h_.1)) (fun _ h_=>h_.1))) hb);replace HO416:=am (Kd.R_below (by refine zR ?_;exact(Kd.R_mono (Kd.R_mono (Kd.R_far (p:=⟨gb418,0,none⟩) (Kd.R_far (p:=⟨gb417,0,none⟩) (Kd.R_types (Kd.R_types HO416.out BK417.out (by decide)) BK418.out (by decide)) (fun _ hk=>hk.1.2) (.slice Ao23 t411.length co23)) (fun _ hk=>hk.2) (.slice Ao26 t414.length co26)) (fun _ h_=>h_.1)) (fun _ h_=>h_.1))) hb);replace BK417:=am (blk_below (g:=gb417) (o:=.cells #[.slice Ao23 t411.length co23] 83 (0,0)) (by refine zk ?_;refine blk_far ?_ NB417_418.out _;refine zk ?_;refine blk_put (cs:=#[.slice none 0 0]) ?_ 0 _ rfl;refine zk ?_;exact BK417.out) hb);replace BK418:=am (blk_below (g:=gb418) (o:=.cells #[.slice Ao26 t414.length co26] 83 (0,0)) (by refine zk ?_;refine blk_put (cs:=#[.slice none 0 0]) ?_ 0 _ rfl;refine zk ?_;refine blk_far ?_ NB418_417.out _;refine zk ?_;exact BK418.out) hb);replace HB:=am (below_step zb hb);(try clear hb);have hcz29_0 : w28.cell? ⟨gb417,0,none⟩ = some (.slice Ao23 t411.length co23):=(blk_cell BK417.out 0).trans rfl;have hfz29_0:=blk_frozen BK417.out 0;have hcz30_0 : w28.cell? ⟨gb418,0,none⟩ = some (.slice Ao26 t414.length co26):=(blk_cell BK418.out 0).trans rfl;have hfz30_0:=blk_frozen BK418.out 0) |((with_reducible refine gate_callee (f:=89) rfl ?_);refine goesL_ (some 18) rfl rfl Tryz.func89 (by kernel_rfl) rfl #[.agg #[.slice Ao23 t411.length co23],.agg #[.slice Ao26 t414.length co26]] rfl zl ?_;(with_reducible refine(nat_number_less.calls k _ _ t411 _ _ t414 t420 _ ?side1 ?side2 ?side3 ?side4 A17.out).mono ?_);(case side1=>exact zC (Kd.R_reads' HO413.out).2.2);(case side2=>exact(Kd.R_reads' HO413.out).2.1);(case side3=>exact zC (Kd.R_reads' HO416.out).2.2);(case side4=>exact(Kd.R_reads' HO416.out).2.1);rintro e w31 ⟨v421,rfl,ho0,hb⟩;refine⟨_,rfl,?_⟩;have HO422:=am (Kd.R_lower (Kd.R_new' (Kd.R_new' ho0 (Kd.R_lt (zR HO413.out))) (Kd.R_lt (zR HO416.out))) (below_size zb));replace HO413:=re HO413 (Kd.R_base ho0) hb;replace HO416:=re HO416 (Kd.R_base ho0) hb;replace BK417:=kb BK417 hb;replace BK418:=kb BK418 hb;replace HB:=am (below_step zb hb);(try clear hb);(try clear ho0);obtain⟨Ao32,co32,eo32⟩:=Kd.R_slice HO422.out;subst eo32) |((with_reducible refine gate_callee (f:=58) rfl ?_);refine goesL_ (some 19) rfl rfl Tryz.func58 (by kernel_rfl) rfl #[.agg #[.slice Ao32 t420.length co32]] rfl zl ?_;(with_reducible refine(nat_number_row.calls k _ _ t420 t423 _ ?side1 ?side2 A18.out).mono ?_);(case side1=>exact zC (Kd.R_reads' HO422.out).2.2);(case side2=>exact(Kd.R_reads' HO422.out).2.1);rintro e w33 ⟨v424,rfl,ho0,hb⟩;refine⟨_,rfl,?_⟩;replace HO413:=rb HO413 hb;replace HO416:=rb HO416 hb;replace HO422:=rb HO422 hb;have HO425:=am (Kd.R_lower ho0 (below_size zb));replace BK417:=kb BK417 hb;replace BK418:=kb BK418 hb;replace HB:=am (below_step zb hb);(try clear hb);(try clear ho0)))
  go_ret2
  exact⟨_,zf,zR HO425.out,zb⟩

/-! ### num_number_plus: function 38 -/
def num_number_plus.f : Nat→List Int→Bool→List Int→Bool→Option (List Int×Bool)
 | 0,_,_,_,_=>none
 | k + 1,l0_0,a0_1,l1_0,a1_1=>if (a0_1 == a1_1) = true then((nat_Add.f k (([l0_0,l1_0] : List (List Int)))).bind fun t432=>((num_made.f k t432 a0_1).bind fun bt435=>(some (bt435.1,bt435.2)))) else((num_size_cmp.f k l0_0 l1_0).bind fun t439=>(if t439 < 0 then((num_number_plus.f k l1_0 a1_1 l0_0 a0_1).bind fun bt440=>(some (bt440.1,bt440.2))) else((nat_Sub.f k l0_0 l1_0).bind fun bt444=>((num_made.f k bt444.1 a0_1).bind fun bt448=>(some (bt448.1,bt448.2))))))
def num_number_plus.T2 : Bool×List (List Nat×List Nat):=(true,[([],[]),([0],[0]),([1],[1]),([],[]),([3],[3]),([4],[4]),([2,5],[2,5]),([6],[6]),([],[]),([8],[8]),([7,9,7],[7,9]),([10,10,0,1,2,3,4,5,6,7,8,9,10],[10])])
def num_number_plus.B2 : List Nat:=[0,1,3,0,8,24,63,127,0,256,1023,2047]
theorem num_number_plus.tab2 : rtab .any (opsOf Tryz.f38 2) = num_number_plus.T2:=by kernel_rfl
theorem num_number_plus.bits2 : waitsOk num_number_plus.T2.2 num_number_plus.B2 = true:=by kernel_rfl
theorem num_number_plus.calls (k : Nat) : ∀ (P0_0_ : Nat→Prop) (A0_0 : Option Addr) (c0_0 : Nat) (l0_0 : List Int) (a0_1 : Bool) (P1_0_ : Nat→Prop) (A1_0 : Option Addr) (c1_0 : Nat) (l1_0 : List Int) (a1_1 : Bool) (r1 : List Int) (r2 : Bool) (w : World) (hs0_0 : Kd.V (Kd.int .u32) 60 w w.heap.size (fun k_=>P0_0_ k_) (.slice A0_0 l0_0.length c0_0) l0_0) (hs1_0 : Kd.V (Kd.int .u32) 60 w w.heap.size (fun k_=>P1_0_ k_) (.slice A1_0 l1_0.length c1_0) l1_0) (h : num_number_plus.f k l0_0 a0_1 l1_0 a1_1 = some (r1,r2)),
  Calls Tryz.prog 38 #[.agg #[.slice A0_0 l0_0.length c0_0,.bool a0_1],.agg #[.slice A1_0 l1_0.length c1_0,.bool a1_1]] w fun e w'=>∃ v0_ : Value,e = .returned (.agg #[v0_,.bool r2])∧Kd.R (Kd.int .u32) 60 w' w.heap.size (fun k_=>(w.heap.size≤k_)) v0_ r1∧Below w.heap.size w w':=by
 induction k using Nat.strongRecOn with
 | _ k ih=>
 intro P0_0_ A0_0 c0_0 l0_0 a0_1 P1_0_ A1_0 c1_0 l1_0 a1_1 r1 r2 w hs0_0 hs1_0 h
 cases k with
 | zero=>exact absurd h (by simp [num_number_plus.f])
 | succ k=>
 simp only [num_number_plus.f] at h
 have hu54:=Tryz.underlying54
 have hu52:=Tryz.underlying52
 have HO0_0:=am (show Kd.V (Kd.int .u32) 60 w w.heap.size (fun k_=>((P0_0_ k_∨P1_0_ k_)∨w.heap.size≤k_)) (.slice A0_0 l0_0.length c0_0) l0_0 from Kd.V_mono hs0_0 (fun k_ hk=>.inl (.inl hk)))
 have HO1_0:=am (show Kd.V (Kd.int .u32) 60 w w.heap.size (fun k_=>((P0_0_ k_∨P1_0_ k_)∨w.heap.size≤k_)) (.slice A1_0 l1_0.length c1_0) l1_0 from Kd.V_mono hs1_0 (fun k_ hk=>.inl (.inr hk)))
 have HB:=am (Below.refl w.heap.size w)
 have H : (if (a0_1 == a1_1) = true then((nat_Add.f k (([l0_0,l1_0] : List (List Int)))).bind fun t432=>((num_made.f k t432 a0_1).bind fun bt435=>(some (bt435.1,bt435.2)))) else((num_size_cmp.f k l0_0 l1_0).bind fun t439=>(if t439 < 0 then((num_number_plus.f k l1_0 a1_1 l0_0 a0_1).bind fun bt440=>(some (bt440.1,bt440.2))) else((nat_Sub.f k l0_0 l1_0).bind fun bt444=>((num_made.f k bt444.1 a0_1).bind fun bt448=>(some (bt448.1,bt448.2))))))) = some (r1,r2):=h
 clear h
 by_cases c3 : (a0_1 == a1_1) = true
 ·rw [if_pos c3] at H
  have c3b0 : (a0_1 == a1_1) = true:=c3
  (try (have c3b1 : decide (a0_1 = a1_1) = true:=by simpa using c3))
  (try (have c3b2 : (a0_1 == a1_1) = true:=by simpa using c3))
  clear c3
  obtain⟨y429,hy429⟩ : ∃ y_ : List (List Int),y_ = (([l0_0,l1_0] : List (List Int))):=⟨_,rfl⟩
  replace H : ((nat_Add.f k y429).bind fun t432=>((num_made.f k t432 a0_1).bind fun bt435=>(some (bt435.1,bt435.2)))) = some (r1,r2):=by first |(rw [hy429];with_reducible exact H) |(have H2_:=(Option.bind_some _ _).symm.trans H;rw [hy429];with_reducible exact H2_) |(have H2_:=(Option.bind_some _ _).symm.trans H;with_reducible exact H2_) | with_reducible exact H |(rw [hy429];exact H) | exact H
  have Ny429:=am hy429
  clear hy429
  replace H:=Option.bind_eq_some_iff.mp H
  obtain⟨t432,A40,H⟩:=H
  try dsimp only at H
  have A4:=am A40
  clear A40
  replace H:=Option.bind_eq_some_iff.mp H
  obtain⟨⟨t435,t438⟩,A50,H⟩:=H
  try dsimp only at H
  have A5:=am A50
  clear A50
  simp only [Option.some.injEq,Prod.mk.injEq] at H
  obtain⟨rfl,rfl⟩:=H
  go_enter Tryz.func38,Tryz.ntmps38
  try go_wp2_with (first |((with_reducible refine gate_dst (N:=2) rfl ?_);refine box_event ?hg (N:=2) ?hd (cs:=#[.slice A0_0 l0_0.length c0_0,.bool a0_1]) (t:=54) ?hr ?_;(case hd=>rfl);(case hg=>rfl);(case hr=>exact zh);intro gb426 hg w6 hbox hb;replace HO0_0:=vB gb426 HO0_0 hg hb;replace HO1_0:=vB gb426 HO1_0 hg hb;have BK426:=am (hbox);have GW426:=gw w hg;have GE426:=gw w hg;replace HB:=am (below_step zb hb);clear hb hbox hg) |((with_reducible refine gate_dst (N:=3) rfl ?_);refine box_event ?hg (N:=3) ?hd (cs:=#[.slice A1_0 l1_0.length c1_0,.bool a1_1]) (t:=54) ?hr ?_;(case hd=>rfl);(case hg=>rfl);(case hr=>exact zh);intro gb427 hg w7 hbox hb;replace HO0_0:=vB gb427 HO0_0 hg hb;replace HO1_0:=vB gb427 HO1_0 hg hb;have BK427:=am (hbox);have GW427:=gw w hg;have GE427:=gw w hg;replace HB:=am (below_step zb hb);have NB426_427:=nl BK426 hg;have NB427_426:=nr BK426 hg;replace BK426:=kb BK426 hb;clear hb hbox hg) |((with_reducible refine gate_dst (N:=4) rfl ?_);refine box_event ?hg (N:=4) ?hd (cs:=#[.slice none 0 0,.bool false]) (t:=54) ?hr ?_;(case hd=>rfl);(case hg=>rfl);(case hr=>exact zh);intro gb428 hg w8 hbox hb;replace HO0_0:=vB gb428 HO0_0 hg hb;replace HO1_0:=vB gb428 HO1_0 hg hb;have BK428:=am (hbox);have GW428:=gw w hg;have GE428:=gw w hg;replace HB:=am (below_step zb hb);have NB426_428:=nl BK426 hg;have NB428_426:=nr BK426 hg;replace BK426:=kb BK426 hb;have NB427_428:=nl BK427 hg;have NB428_427:=nr BK427 hg;replace BK427:=kb BK427 hb;clear hb hbox hg;have hnb9:=NB426_427.out;have hnc9:=NB427_426.out;have hnb10:=NB426_428.out;have hnc10:=NB428_426.out;have hcz11_0 : w8.cell? ⟨gb426,0,none⟩ = some (.slice A0_0 l0_0.length c0_0):=(blk_cell BK426.out 0).trans rfl;have hcz11_1 : w8.cell? ⟨gb426,1,none⟩ = some (.bool a0_1):=(blk_cell BK426.out 1).trans rfl;have hfz11_0:=blk_frozen BK426.out 0;have hfz11_1:=blk_frozen BK426.out 1;have hnb12:=NB427_428.out;have hnc12:=NB428_427.out;have hcz13_0 : w8.cell? ⟨gb427,0,none⟩ = some (.slice A1_0 l1_0.length c1_0):=(blk_cell BK427.out 0).trans rfl;have hcz13_1 : w8.cell? ⟨gb427,1,none⟩ = some (.bool a1_1):=(blk_cell BK427.out 1).trans rfl;have hfz13_0:=blk_frozen BK427.out 0;have hfz13_1:=blk_frozen BK427.out 1))
  replace HO0_0:=am (Kd.V_drew HO0_0.out)
  replace HO1_0:=am (Kd.V_drew HO1_0.out)
  replace BK426:=am (blk_drew BK426.out)
  replace BK427:=am (blk_drew BK427.out)
  replace BK428:=am (blk_drew BK428.out)
  replace HB:=am (below_drew1 HB.out)
  refine start_ (n:=12) (S:=fun w'=>w'.cell? ⟨gb426,0,none⟩ = some (.slice A0_0 l0_0.length c0_0)∧w'.cell? ⟨gb426,1,none⟩ = some (.bool a0_1)∧w'.cell? ⟨gb427,0,none⟩ = some (.slice A1_0 l1_0.length c1_0)∧w'.cell? ⟨gb427,1,none⟩ = some (.bool a1_1)) (ds:=[]) #[ff,ff,ff,ff,ff,ff,ff,ff,ff,ff,ff,ff] (by kernel_rfl) rfl rfl ⟨(blk_cell BK426.out 0).trans rfl,(blk_cell BK426.out 1).trans rfl,(blk_cell BK427.out 0).trans rfl,(blk_cell BK427.out 1).trans rfl⟩ (fun hHeld=>?_);refine with_tabW num_number_plus.tab2 num_number_plus.bits2 (fun HT_ HW_=>?_)
  generalize w8.drew = w14 at HO0_0 HO1_0 BK426 BK427 BK428 HB hHeld ⊢
  refine pu (i:=0) (N:=some 13) #[tt,ff,ff,ff,ff,ff,ff,ff,ff,ff,ff,ff] (any_of HT_.out (by kernel_rfl)) ?_
  refine pu (i:=1) (N:=some 14) #[tt,tt,ff,ff,ff,ff,ff,ff,ff,ff,ff,ff] (any_of HT_.out (by kernel_rfl)) ?_
  refine pu (i:=3) (N:=some 16) #[tt,tt,ff,tt,ff,ff,ff,ff,ff,ff,ff,ff] (any_of HT_.out (by kernel_rfl)) ?_
  refine pu (i:=4) (N:=some 17) #[tt,tt,ff,tt,tt,ff,ff,ff,ff,ff,ff,ff] (any_of HT_.out (by kernel_rfl)) ?_
  refine pu (i:=8) (N:=some 21) #[tt,tt,ff,tt,tt,ff,ff,ff,tt,ff,ff,ff] (any_of HT_.out (by kernel_rfl)) ?_
  refine take_ (i:=2) (N:=some 15) (v:=?_) (a':=?_) #[tt,tt,tt,tt,tt,ff,ff,ff,tt,ff,ff,ff] rfl rfl (take_ofW HT_.out HW_.out (by kernel_rfl)) (fun _ _ _ h=>h) (Or.inl ⟨by rfl,?_⟩) hHeld ?_ ?_
  rotate_left
  ·rintro w' ⟨s0,s1,s2,s3⟩
   go_simp
   with_reducible rfl
  rotate_left
  ·simp only [Act.put,sA,sZ,sS,i64_w,i32_w]
   rfl
  refine take_ (i:=5) (N:=some 18) (v:=?_) (a':=?_) #[tt,tt,tt,tt,tt,tt,ff,ff,tt,ff,ff,ff] rfl rfl (take_ofW HT_.out HW_.out (by kernel_rfl)) (fun _ _ _ h=>h) (Or.inl ⟨by rfl,?_⟩) hHeld ?_ ?_
  rotate_left
  ·rintro w' ⟨s0,s1,s2,s3⟩
   go_simp
   with_reducible rfl
  rotate_left
  ·simp only [Act.put,sA,sZ,sS,i64_w,i32_w]
   rfl
  refine take_ (i:=9) (N:=some 22) (v:=?_) (a':=?_) #[tt,tt,tt,tt,tt,tt,ff,ff,tt,tt,ff,ff] rfl rfl (take_ofW HT_.out HW_.out (by kernel_rfl)) (fun _ _ _ h=>h) (Or.inl ⟨by rfl,?_⟩) hHeld ?_ ?_
  rotate_left
  ·rintro w' ⟨s0,s1,s2,s3⟩
   go_simp
   with_reducible rfl
  rotate_left
  ·simp only [Act.put,sA,sZ,sS,i64_w,i32_w]
   rfl
  refine one_ (i:=6) (N:=some 19) #[tt,tt,tt,tt,tt,tt,tt,ff,tt,tt,ff,ff] rfl rfl (one_of HT_.out (by kernel_rfl)) (by decide) (fun K hK=>?_)
  refine Kd.N_lit_step (Kd.slice 60 (Kd.int .u32)) _ 23 ?hg (N':=19) ?hd (xs:=([l0_0,l1_0] : List (List Int))) (inner:=[.slice A0_0 l0_0.length c0_0,.slice A1_0 l1_0.length c1_0]) (ok:=(fun k_=>((P0_0_ k_∨P1_0_ k_)∨w.heap.size≤k_)∧k_≠gb426∧k_≠gb427∧k_≠gb428)) (okp:=(fun k_=>((P0_0_ k_∨P1_0_ k_)∨w.heap.size≤k_)∧k_≠gb426∧k_≠gb427∧k_≠gb428)) ?hr ?hp (fun _ hk=>hk) ((show ∀ k_,w14.heap.size≤k_→(fun k_=>((P0_0_ k_∨P1_0_ k_)∨w.heap.size≤k_)∧k_≠gb426∧k_≠gb427∧k_≠gb428) k_ from fun k_ hk=>⟨(.inr (Nat.le_trans (below_size zb) hk)),fb BK426 k_ hk,fb BK427 k_ hk,fb BK428 k_ hk⟩) _ (Nat.le_refl _)) (Below.refl _ _) (Nat.le_refl _) (by simp) ?_;(case hd=>rfl);(case hg=>rfl);(case hr=>exact zh);(case hp=>exact(Reps.one (show Kd.FK (Kd.slice 60 (Kd.int .u32)) _ _ l0_0 [.slice A0_0 l0_0.length c0_0] from(Kd.FK_slice_mk (Kd.V_reads' (Kd.V_mono (ok':=(fun k_=>((P0_0_ k_∨P1_0_ k_)∨w.heap.size≤k_)∧k_≠gb426∧k_≠gb427∧k_≠gb428)) (HO0_0.out) (fun k_ hk=>⟨hk.1.1.1,⟨hk.1.1.2,⟨hk.1.2,hk.2⟩⟩⟩))).2.1 (Kd.V_F (Kd.V_mono (ok':=(fun k_=>((P0_0_ k_∨P1_0_ k_)∨w.heap.size≤k_)∧k_≠gb426∧k_≠gb427∧k_≠gb428)) (HO0_0.out) (fun k_ hk=>⟨hk.1.1.1,⟨hk.1.1.2,⟨hk.1.2,hk.2⟩⟩⟩))))) (Reps.one (show Kd.FK (Kd.slice 60 (Kd.int .u32)) _ _ l1_0 [.slice A1_0 l1_0.length c1_0] from(Kd.FK_slice_mk (Kd.V_reads' (Kd.V_mono (ok':=(fun k_=>((P0_0_ k_∨P1_0_ k_)∨w.heap.size≤k_)∧k_≠gb426∧k_≠gb427∧k_≠gb428)) (HO1_0.out) (fun k_ hk=>⟨hk.1.1.1,⟨hk.1.1.2,⟨hk.1.2,hk.2⟩⟩⟩))).2.1 (Kd.V_F (Kd.V_mono (ok':=(fun k_=>((P0_0_ k_∨P1_0_ k_)∨w.heap.size≤k_)∧k_≠gb426∧k_≠gb427∧k_≠gb428)) (HO1_0.out) (fun k_ hk=>⟨hk.1.1.1,⟨hk.1.1.2,⟨hk.1.2,hk.2⟩⟩⟩))))) (Reps.none _ _))))
  intro v430 w15 ho16 hb hg_ hnew_
  clear hg_ hnew_
  (first | rw [← Ny429.out] at ho16 |(simp only [Int.reduceToNat] at ho16;rw [← Ny429.out] at ho16))
  replace HO0_0:=ve HO0_0 (Kd.N_base ho16) hb
  replace HO1_0:=ve HO1_0 (Kd.N_base ho16) hb
  have HO431:=am (Kd.N_lower ho16 (below_size zb))
  replace BK426:=kb BK426 hb
  replace BK427:=kb BK427 hb
  replace BK428:=kb BK428 hb
  replace HB:=am (below_step zb hb)
  clear hb ho16
  obtain⟨Ao17,co17,eo17⟩:=Kd.N_slice HO431.out
  (first | subst eo17 |(injection eo17 with f1_ f2_ f3_;have f4_:=f1_.symm;have f5_:=f3_.symm;clear f1_ f2_ f3_;subst f4_;subst f5_))
  refine hK.out _ _ ⟨(blk_cell BK426.out 0).trans rfl,(blk_cell BK426.out 1).trans rfl,(blk_cell BK427.out 0).trans rfl,(blk_cell BK427.out 1).trans rfl⟩ (fun hHeld=>?_)
  clear hK K
  refine norm_ (a':=?_) ?_ ?_
  rotate_left
  ·show Act.put _ (some 19) _ = _
   simp only [Act.put,sA,sZ,sS,i64_w,i32_w]
   rfl
  refine one_ (i:=7) (N:=some 20) #[tt,tt,tt,tt,tt,tt,tt,tt,tt,tt,ff,ff] rfl rfl (one_of HT_.out (by kernel_rfl)) (by decide) (fun K hK=>?_)
  refine goes_ Tryz.func65 (by kernel_rfl) rfl #[.slice Ao17 y429.length co17] (by rfl) rfl rfl zl ?_
  with_reducible refine(nat_Add.calls k _ _ y429 t432 _ ?side1 ?side2 A4.out).mono ?_
  (case side1=>exact zC (Kd.N_reads' HO431.out).2.2)
  (case side2=>exact(Kd.N_reads' HO431.out).2.1)
  rintro e w18 ⟨v433,rfl,ho0,hb⟩
  refine⟨_,rfl,?_⟩
  replace HO0_0:=ve HO0_0 (Kd.R_base ho0) hb
  replace HO1_0:=ve HO1_0 (Kd.R_base ho0) hb
  replace HO431:=am (Kd.N_elder' (zN HO431.out) (Kd.R_base ho0) hb)
  have HO434:=am (Kd.R_lower (Kd.R_newM (M:=fun k_=>(w.heap.size≤k_)) ho0 (below_size zb) (fun k_ h_=>h_)) (below_size zb))
  replace BK426:=kb BK426 hb
  replace BK427:=kb BK427 hb
  replace BK428:=kb BK428 hb
  replace HB:=am (below_step zb hb)
  (try clear hb)
  (try clear hb2)
  (try clear hk)
  (try clear hi)
  (try clear ho0)
  obtain⟨Ao19,co19,eo19⟩:=Kd.R_slice HO434.out
  (first | subst eo19 |(injection eo19 with f1_ f2_ f3_;have f4_:=f1_.symm;have f5_:=f3_.symm;clear f1_ f2_ f3_;subst f4_;subst f5_))
  refine hK.out _ _ ⟨(blk_cell BK426.out 0).trans rfl,(blk_cell BK426.out 1).trans rfl,(blk_cell BK427.out 0).trans rfl,(blk_cell BK427.out 1).trans rfl⟩ (fun hHeld=>?_)
  clear hK K
  refine norm_ (a':=?_) ?_ ?_
  rotate_left
  ·show Act.put _ (some 20) _ = _
   simp only [Act.put,sA,sZ,sS,i64_w,i32_w]
   rfl
  refine one_ (i:=10) (N:=some 23) #[tt,tt,tt,tt,tt,tt,tt,tt,tt,tt,tt,ff] rfl rfl (one_of HT_.out (by kernel_rfl)) (by decide) (fun K hK=>?_)
  refine goes_ Tryz.func29 (by kernel_rfl) rfl #[.slice Ao19 t432.length co19,.bool a0_1] (by rfl) rfl rfl zl ?_
  with_reducible refine(num_made.calls k _ _ t432 a0_1 t435 t438 _ ?side1 ?side2 A5.out).mono ?_
  (case side1=>exact zC (Kd.R_reads' HO434.out).2.2)
  (case side2=>exact(Kd.R_reads' HO434.out).2.1)
  rintro e w20 ⟨v436,rfl,ho0,hb⟩
  refine⟨_,rfl,?_⟩
  replace HO0_0:=ve HO0_0 (Kd.R_base ho0) hb
  replace HO1_0:=ve HO1_0 (Kd.R_base ho0) hb
  replace HO431:=am (Kd.N_elder' (zN HO431.out) (Kd.R_base ho0) hb)
  have HO437:=am (Kd.R_lower (Kd.R_new' (Kd.R_newM (M:=fun k_=>(w.heap.size≤k_)) ho0 (below_size zb) (fun k_ h_=>h_)) (Kd.R_lt (zR HO434.out))) (below_size zb))
  replace HO434:=re HO434 (Kd.R_base ho0) hb
  replace BK426:=kb BK426 hb
  replace BK427:=kb BK427 hb
  replace BK428:=kb BK428 hb
  replace HB:=am (below_step zb hb)
  (try clear hb)
  (try clear hb2)
  (try clear hk)
  (try clear hi)
  (try clear ho0)
  obtain⟨Ao21,co21,eo21⟩:=Kd.R_slice HO437.out
  (first | subst eo21 |(injection eo21 with f1_ f2_ f3_;have f4_:=f1_.symm;have f5_:=f3_.symm;clear f1_ f2_ f3_;subst f4_;subst f5_))
  refine hK.out _ _ ⟨(blk_cell BK426.out 0).trans rfl,(blk_cell BK426.out 1).trans rfl,(blk_cell BK427.out 0).trans rfl,(blk_cell BK427.out 1).trans rfl⟩ (fun hHeld=>?_)
  clear hK K
  refine norm_ (a':=?_) ?_ ?_
  rotate_left
  ·show Act.put _ (some 23) _ = _
   simp only [Act.put,sA,sZ,sS,i64_w,i32_w]
   rfl
  refine one_ (i:=11) (N:=none) #[tt,tt,tt,tt,tt,tt,tt,tt,tt,tt,tt,tt] rfl rfl (one_of HT_.out (by kernel_rfl)) (by decide) (fun K hK=>?_)
  have hs22 : w20.cell? ⟨gb428,0,none⟩ = some (.slice none 0 0):=(blk_cell BK428.out 0).trans rfl
  have hfs22:=blk_frozen BK428.out 0
  have hns22_0:=NB426_428.out
  have hns22_1:=NB427_428.out
  have hms22_0:=NB428_426.out
  have hms22_1:=NB428_427.out
  have hs23 : w20.cell? ⟨gb428,1,none⟩ = some (.bool false):=(blk_cell BK428.out 1).trans rfl
  have hfs23:=blk_frozen BK428.out 1
  have hns23_0:=NB426_428.out
  have hns23_1:=NB427_428.out
  have hms23_0:=NB428_426.out
  have hms23_1:=NB428_427.out
  refine skip_ (w1:=?_) (by rfl) rfl ?_ ?_
  rotate_left
  ·go_simp
   rfl
  refine hK.out _ _ ⟨((cell_far (p:=⟨gb428,_,none⟩) NB426_428.out _).trans (((cell_far (p:=⟨gb428,_,none⟩) NB426_428.out _).trans (hHeld.1)))),((cell_far (p:=⟨gb428,_,none⟩) NB426_428.out _).trans (((cell_far (p:=⟨gb428,_,none⟩) NB426_428.out _).trans (hHeld.2.1)))),((cell_far (p:=⟨gb428,_,none⟩) NB427_428.out _).trans (((cell_far (p:=⟨gb428,_,none⟩) NB427_428.out _).trans (hHeld.2.2.1)))),((cell_far (p:=⟨gb428,_,none⟩) NB427_428.out _).trans (((cell_far (p:=⟨gb428,_,none⟩) NB427_428.out _).trans (hHeld.2.2.2))))⟩ (fun hHeld=>?_)
  clear hK K
  refine done_ (done_of HT_.out (by kernel_rfl)) ?_
  try go_wp2
  refine bodyPost_ret (results_cell_row rfl _ _ gb428 54 #[.slice Ao21 t435.length co21,.bool t438] (0,0) _ rfl (by refine zk ?_;refine blk_put (cs:=#[.slice Ao21 t435.length co21,.bool false]) ?_ 1 _ rfl;refine zk ?_;refine blk_put (cs:=#[.slice none 0 0,.bool false]) ?_ 0 _ rfl;refine zk ?_;exact BK428.out) Tryz.underlying54 rfl (by kernel_rfl)) rfl ?_
  exact⟨_,zf,by refine zR ?_;exact Kd.R_mono (Kd.R_far (p:=⟨gb428,1,none⟩) (Kd.R_far (p:=⟨gb428,0,none⟩) (Kd.R_types HO437.out BK428.out (by decide)) (fun _ hk=>hk.2) (.slice Ao21 t435.length co21)) (fun _ hk=>hk.2) (.bool t438)) (fun _ hk=>hk.1.1.1),zb⟩
 ·rw [if_neg c3] at H
  have c3b0 : (a0_1 == a1_1) = false:=by simpa using c3
  (try (have c3b1 : decide (a0_1 = a1_1) = false:=by simpa using c3))
  (try (have c3b2 : (a0_1 == a1_1) = false:=by simpa using c3))
  (try (have c3b3 : ¬ (a0_1 = a1_1):=by simpa using c3))
  clear c3
  replace H:=Option.bind_eq_some_iff.mp H
  obtain⟨t439,A240,H⟩:=H
  try dsimp only at H
  have A24:=am A240
  clear A240
  by_cases c25 : t439 < 0
  ·rw [if_pos c25] at H
   have c25b0 : decide (t439 < 0) = true:=decide_eq_true c25
   clear c25
   replace H:=Option.bind_eq_some_iff.mp H
   obtain⟨⟨t440,t443⟩,A260,H⟩:=H
   try dsimp only at H
   have A26:=am A260
   clear A260
   simp only [Option.some.injEq,Prod.mk.injEq] at H
   obtain⟨rfl,rfl⟩:=H
   go_enter Tryz.func38,Tryz.ntmps38
   go_wp2_with (first |((with_reducible refine gate_dst (N:=2) rfl ?_);refine box_event ?hg (N:=2) ?hd (cs:=#[.slice A0_0 l0_0.length c0_0,.bool a0_1]) (t:=54) ?hr ?_;(case hd=>rfl);(case hg=>rfl);(case hr=>exact zh);intro gb426 hg w27 hbox hb;replace HO0_0:=vB gb426 HO0_0 hg hb;replace HO1_0:=vB gb426 HO1_0 hg hb;have BK426:=am (hbox);have GW426:=gw w hg;have GE426:=gw w hg;replace HB:=am (below_step zb hb);clear hb hbox hg) |((with_reducible refine gate_dst (N:=3) rfl ?_);refine box_event ?hg (N:=3) ?hd (cs:=#[.slice A1_0 l1_0.length c1_0,.bool a1_1]) (t:=54) ?hr ?_;(case hd=>rfl);(case hg=>rfl);(case hr=>exact zh);intro gb427 hg w28 hbox hb;replace HO0_0:=vB gb427 HO0_0 hg hb;replace HO1_0:=vB gb427 HO1_0 hg hb;have BK427:=am (hbox);have GW427:=gw w hg;have GE427:=gw w hg;replace HB:=am (below_step zb hb);have NB426_427:=nl BK426 hg;have NB427_426:=nr BK426 hg;replace BK426:=kb BK426 hb;clear hb hbox hg) |((with_reducible refine gate_dst (N:=4) rfl ?_);refine box_event ?hg (N:=4) ?hd (cs:=#[.slice none 0 0,.bool false]) (t:=54) ?hr ?_;(case hd=>rfl);(case hg=>rfl);(case hr=>exact zh);intro gb428 hg w29 hbox hb;replace HO0_0:=vB gb428 HO0_0 hg hb;replace HO1_0:=vB gb428 HO1_0 hg hb;have BK428:=am (hbox);have GW428:=gw w hg;have GE428:=gw w hg;replace HB:=am (below_step zb hb);have NB426_428:=nl BK426 hg;have NB428_426:=nr BK426 hg;replace BK426:=kb BK426 hb;have NB427_428:=nl BK427 hg;have NB428_427:=nr BK427 hg;replace BK427:=kb BK427 hb;clear hb hbox hg;have hnb30:=NB426_427.out;have hnc30:=NB427_426.out;have hnb31:=NB426_428.out;have hnc31:=NB428_426.out;have hcz32_0 : w29.cell? ⟨gb426,0,none⟩ = some (.slice A0_0 l0_0.length c0_0):=(blk_cell BK426.out 0).trans rfl;have hcz32_1 : w29.cell? ⟨gb426,1,none⟩ = some (.bool a0_1):=(blk_cell BK426.out 1).trans rfl;have hfz32_0:=blk_frozen BK426.out 0;have hfz32_1:=blk_frozen BK426.out 1;have hnb33:=NB427_428.out;have hnc33:=NB428_427.out;have hcz34_0 : w29.cell? ⟨gb427,0,none⟩ = some (.slice A1_0 l1_0.length c1_0):=(blk_cell BK427.out 0).trans rfl;have hcz34_1 : w29.cell? ⟨gb427,1,none⟩ = some (.bool a1_1):=(blk_cell BK427.out 1).trans rfl;have hfz34_0:=blk_frozen BK427.out 0;have hfz34_1:=blk_frozen BK427.out 1) |((with_reducible refine gate_callee (f:=53) rfl ?_);refine goesL_ (some 29) rfl rfl Tryz.func53 (by kernel_rfl) rfl #[.agg #[.slice A0_0 l0_0.length c0_0],.agg #[.slice A1_0 l1_0.length c1_0]] rfl zl ?_;(with_reducible refine(num_size_cmp.calls k _ _ l0_0 _ _ l1_0 t439 _ ?side1 ?side2 ?side3 ?side4 A24.out).mono ?_);(case side1=>exact zC (Kd.V_reads' HO0_0.out).2.2);(case side2=>exact(Kd.V_reads' HO0_0.out).2.1);(case side3=>exact zC (Kd.V_reads' HO1_0.out).2.2);(case side4=>exact(Kd.V_reads' HO1_0.out).2.1);rintro e w35 ⟨rfl,hb⟩;refine⟨_,rfl,?_⟩;replace HO0_0:=vb HO0_0 hb;replace HO1_0:=vb HO1_0 hb;replace BK426:=kb BK426 hb;replace BK427:=kb BK427 hb;replace BK428:=kb BK428 hb;replace HB:=am (below_step zb hb);(try clear hb);have hcz36_0 : w35.cell? ⟨gb427,0,none⟩ = some (.slice A1_0 l1_0.length c1_0):=(blk_cell BK427.out 0).trans rfl;have hcz36_1 : w35.cell? ⟨gb427,1,none⟩ = some (.bool a1_1):=(blk_cell BK427.out 1).trans rfl;have hfz36_0:=blk_frozen BK427.out 0;have hfz36_1:=blk_frozen BK427.out 1;have hcz37_0 : w35.cell? ⟨gb426,0,none⟩ = some (.slice A0_0 l0_0.length c0_0):=(blk_cell BK426.out 0).trans rfl;have hcz37_1 : w35.cell? ⟨gb426,1,none⟩ = some (.bool a0_1):=(blk_cell BK426.out 1).trans rfl;have hfz37_0:=blk_frozen BK426.out 0;have hfz37_1:=blk_frozen BK426.out 1) |((with_reducible refine gate_callee (f:=38) rfl ?_);refine goesL_ (some 33) rfl rfl Tryz.func38 (by kernel_rfl) rfl #[.agg #[.slice A1_0 l1_0.length c1_0,.bool a1_1],.agg #[.slice A0_0 l0_0.length c0_0,.bool a0_1]] rfl zl ?_;(with_reducible refine(ih k (by omega) (fun k_=>(((((P0_0_ k_∨P1_0_ k_)∨w.heap.size≤k_)∧k_≠gb426)∧k_≠gb427)∧k_≠gb428)) _ _ l1_0 a1_1 (fun k_=>(((((P0_0_ k_∨P1_0_ k_)∨w.heap.size≤k_)∧k_≠gb426)∧k_≠gb427)∧k_≠gb428)) _ _ l0_0 a0_1 t440 t443 _ ?side1 ?side2 A26.out).mono ?_);(case side1=>exact HO1_0.out);(case side2=>exact HO0_0.out);rintro e w38 ⟨v441,rfl,ho0,hb⟩;refine⟨_,rfl,?_⟩;replace HO0_0:=ve HO0_0 (Kd.R_base ho0) hb;replace HO1_0:=ve HO1_0 (Kd.R_base ho0) hb;have HO442:=am (Kd.R_lower (Kd.R_newM (M:=fun k_=>(w.heap.size≤k_)) (Kd.R_mono (ok':=fun k_=>True) ho0 (fun _ hk_=>trivial)) (below_size zb) (fun k_ h_=>h_)) (below_size zb));replace BK426:=kb BK426 hb;replace BK427:=kb BK427 hb;replace BK428:=kb BK428 hb;replace HB:=am (below_step zb hb);(try clear hb);(try clear ho0);obtain⟨Ao39,co39,eo39⟩:=Kd.R_slice HO442.out;subst eo39;have hcz40_0 : w38.cell? ⟨gb428,0,none⟩ = some (.slice none 0 0):=(blk_cell BK428.out 0).trans rfl;have hcz40_1 : w38.cell? ⟨gb428,1,none⟩ = some (.bool false):=(blk_cell BK428.out 1).trans rfl;have hfz40_0:=blk_frozen BK428.out 0;have hfz40_1:=blk_frozen BK428.out 1))
   refine bodyPost_ret (results_cell_row rfl _ _ gb428 54 #[.slice Ao39 t440.length co39,.bool t443] (0,0) _ rfl (by refine zk ?_;refine blk_put (cs:=#[.slice Ao39 t440.length co39,.bool false]) ?_ 1 _ rfl;refine zk ?_;refine blk_put (cs:=#[.slice none 0 0,.bool false]) ?_ 0 _ rfl;refine zk ?_;exact BK428.out) Tryz.underlying54 rfl (by kernel_rfl)) rfl ?_
   exact⟨_,zf,by refine zR ?_;exact Kd.R_mono (Kd.R_far (p:=⟨gb428,1,none⟩) (Kd.R_far (p:=⟨gb428,0,none⟩) (Kd.R_types HO442.out BK428.out (by decide)) (fun _ hk=>hk.2) (.slice Ao39 t440.length co39)) (fun _ hk=>hk.2) (.bool t443)) (fun _ hk=>hk.1.1),zb⟩
  ·rw [if_neg c25] at H
   have c25b0 : decide (t439 < 0) = false:=decide_eq_false c25
   clear c25
   replace H:=Option.bind_eq_some_iff.mp H
   obtain⟨⟨t444,t445⟩,A410,H⟩:=H
   try dsimp only at H
   have A41:=am A410
   clear A410
   replace H:=Option.bind_eq_some_iff.mp H
   obtain⟨⟨t448,t451⟩,A420,H⟩:=H
   try dsimp only at H
   have A42:=am A420
   clear A420
   simp only [Option.some.injEq,Prod.mk.injEq] at H
   obtain⟨rfl,rfl⟩:=H
   go_enter Tryz.func38,Tryz.ntmps38
   go_wp2_with (first |((with_reducible refine gate_dst (N:=2) rfl ?_);refine box_event ?hg (N:=2) ?hd (cs:=#[.slice A0_0 l0_0.length c0_0,.bool a0_1]) (t:=54) ?hr ?_;(case hd=>rfl);(case hg=>rfl);(case hr=>exact zh);intro gb426 hg w43 hbox hb;replace HO0_0:=vB gb426 HO0_0 hg hb;replace HO1_0:=vB gb426 HO1_0 hg hb;have BK426:=am (hbox);have GW426:=gw w hg;have GE426:=gw w hg;replace HB:=am (below_step zb hb);clear hb hbox hg) |((with_reducible refine gate_dst (N:=3) rfl ?_);refine box_event ?hg (N:=3) ?hd (cs:=#[.slice A1_0 l1_0.length c1_0,.bool a1_1]) (t:=54) ?hr ?_;(case hd=>rfl);(case hg=>rfl);(case hr=>exact zh);intro gb427 hg w44 hbox hb;replace HO0_0:=vB gb427 HO0_0 hg hb;replace HO1_0:=vB gb427 HO1_0 hg hb;have BK427:=am (hbox);have GW427:=gw w hg;have GE427:=gw w hg;replace HB:=am (below_step zb hb);have NB426_427:=nl BK426 hg;have NB427_426:=nr BK426 hg;replace BK426:=kb BK426 hb;clear hb hbox hg) |((with_reducible refine gate_dst (N:=4) rfl ?_);refine box_event ?hg (N:=4) ?hd (cs:=#[.slice none 0 0,.bool false]) (t:=54) ?hr ?_;(case hd=>rfl);(case hg=>rfl);(case hr=>exact zh);intro gb428 hg w45 hbox hb;replace HO0_0:=vB gb428 HO0_0 hg hb;replace HO1_0:=vB gb428 HO1_0 hg hb;have BK428:=am (hbox);have GW428:=gw w hg;have GE428:=gw w hg;replace HB:=am (below_step zb hb);have NB426_428:=nl BK426 hg;have NB428_426:=nr BK426 hg;replace BK426:=kb BK426 hb;have NB427_428:=nl BK427 hg;have NB428_427:=nr BK427 hg;replace BK427:=kb BK427 hb;clear hb hbox hg;have hnb46:=NB426_427.out;have hnc46:=NB427_426.out;have hnb47:=NB426_428.out;have hnc47:=NB428_426.out;have hcz48_0 : w45.cell? ⟨gb426,0,none⟩ = some (.slice A0_0 l0_0.length c0_0):=(blk_cell BK426.out 0).trans rfl;have hcz48_1 : w45.cell? ⟨gb426,1,none⟩ = some (.bool a0_1):=(blk_cell BK426.out 1).trans rfl;have hfz48_0:=blk_frozen BK426.out 0;have hfz48_1:=blk_frozen BK426.out 1;have hnb49:=NB427_428.out;have hnc49:=NB428_427.out;have hcz50_0 : w45.cell? ⟨gb427,0,none⟩ = some (.slice A1_0 l1_0.length c1_0):=(blk_cell BK427.out 0).trans rfl;have hcz50_1 : w45.cell? ⟨gb427,1,none⟩ = some (.bool a1_1):=(blk_cell BK427.out 1).trans rfl;have hfz50_0:=blk_frozen BK427.out 0;have hfz50_1:=blk_frozen BK427.out 1) |((with_reducible refine gate_callee (f:=53) rfl ?_);refine goesL_ (some 29) rfl rfl Tryz.func53 (by kernel_rfl) rfl #[.agg #[.slice A0_0 l0_0.length c0_0],.agg #[.slice A1_0 l1_0.length c1_0]] rfl zl ?_;(with_reducible refine(num_size_cmp.calls k _ _ l0_0 _ _ l1_0 t439 _ ?side1 ?side2 ?side3 ?side4 A24.out).mono ?_);(case side1=>exact zC (Kd.V_reads' HO0_0.out).2.2);(case side2=>exact(Kd.V_reads' HO0_0.out).2.1);(case side3=>exact zC (Kd.V_reads' HO1_0.out).2.2);(case side4=>exact(Kd.V_reads' HO1_0.out).2.1);rintro e w51 ⟨rfl,hb⟩;refine⟨_,rfl,?_⟩;replace HO0_0:=vb HO0_0 hb;replace HO1_0:=vb HO1_0 hb;replace BK426:=kb BK426 hb;replace BK427:=kb BK427 hb;replace BK428:=kb BK428 hb;replace HB:=am (below_step zb hb);(try clear hb);have hcz52_0 : w51.cell? ⟨gb426,0,none⟩ = some (.slice A0_0 l0_0.length c0_0):=(blk_cell BK426.out 0).trans rfl;have hcz52_1 : w51.cell? ⟨gb426,1,none⟩ = some (.bool a0_1):=(blk_cell BK426.out 1).trans rfl;have hfz52_0:=blk_frozen BK426.out 0;have hfz52_1:=blk_frozen BK426.out 1;have hcz53_0 : w51.cell? ⟨gb427,0,none⟩ = some (.slice A1_0 l1_0.length c1_0):=(blk_cell BK427.out 0).trans rfl;have hcz53_1 : w51.cell? ⟨gb427,1,none⟩ = some (.bool a1_1):=(blk_cell BK427.out 1).trans rfl;have hfz53_0:=blk_frozen BK427.out 0;have hfz53_1:=blk_frozen BK427.out 1) |((with_reducible refine gate_callee (f:=66) rfl ?_);refine goesL_ (some 41) rfl rfl Tryz.func66 (by kernel_rfl) rfl #[.slice A0_0 l0_0.length c0_0,.slice A1_0 l1_0.length c1_0] rfl zl ?_;(with_reducible refine(nat_Sub.calls k _ _ l0_0 _ _ l1_0 t444 t445 _ ?side1 ?side2 ?side3 ?side4 A41.out).mono ?_);(case side1=>exact zC (Kd.V_reads' HO0_0.out).2.2);(case side2=>exact(Kd.V_reads' HO0_0.out).2.1);(case side3=>exact zC (Kd.V_reads' HO1_0.out).2.2);(case side4=>exact(Kd.V_reads' HO1_0.out).2.1);rintro e w54 ⟨v446,rfl,ho0,hb⟩;refine⟨_,rfl,?_⟩;replace HO0_0:=ve HO0_0 (Kd.R_base ho0) hb;replace HO1_0:=ve HO1_0 (Kd.R_base ho0) hb;have HO447:=am (Kd.R_lower (Kd.R_newM (M:=fun k_=>(w.heap.size≤k_)) ho0 (below_size zb) (fun k_ h_=>h_)) (below_size zb));replace BK426:=kb BK426 hb;replace BK427:=kb BK427 hb;replace BK428:=kb BK428 hb;replace HB:=am (below_step zb hb);(try clear hb);(try clear ho0);have hcz55_0 : w54.cell? ⟨gb426,0,none⟩ = some (.slice A0_0 l0_0.length c0_0):=(blk_cell BK426.out 0).trans rfl;have hcz55_1 : w54.cell? ⟨gb426,1,none⟩ = some (.bool a0_1):=(blk_cell BK426.out 1).trans rfl;have hfz55_0:=blk_frozen BK426.out 0;have hfz55_1:=blk_frozen BK426.out 1;obtain⟨Ao56,co56,eo56⟩:=Kd.R_slice HO447.out;subst eo56) |((with_reducible refine gate_callee (f:=29) rfl ?_);refine goesL_ (some 47) rfl rfl Tryz.func29 (by kernel_rfl) rfl #[.slice Ao56 t444.length co56,.bool a0_1] rfl zl ?_;(with_reducible refine(num_made.calls k _ _ t444 a0_1 t448 t451 _ ?side1 ?side2 A42.out).mono ?_);(case side1=>exact zC (Kd.R_reads' HO447.out).2.2);(case side2=>exact(Kd.R_reads' HO447.out).2.1);rintro e w57 ⟨v449,rfl,ho0,hb⟩;refine⟨_,rfl,?_⟩;replace HO0_0:=ve HO0_0 (Kd.R_base ho0) hb;replace HO1_0:=ve HO1_0 (Kd.R_base ho0) hb;have HO450:=am (Kd.R_lower (Kd.R_new' (Kd.R_newM (M:=fun k_=>(w.heap.size≤k_)) ho0 (below_size zb) (fun k_ h_=>h_)) (Kd.R_lt (zR HO447.out))) (below_size zb));replace HO447:=re HO447 (Kd.R_base ho0) hb;replace BK426:=kb BK426 hb;replace BK427:=kb BK427 hb;replace BK428:=kb BK428 hb;replace HB:=am (below_step zb hb);(try clear hb);(try clear ho0);obtain⟨Ao58,co58,eo58⟩:=Kd.R_slice HO450.out;subst eo58;have hcz59_0 : w57.cell? ⟨gb428,0,none⟩ = some (.slice none 0 0):=(blk_cell BK428.out 0).trans rfl;have hcz59_1 : w57.cell? ⟨gb428,1,none⟩ = some (.bool false):=(blk_cell BK428.out 1).trans rfl;have hfz59_0:=blk_frozen BK428.out 0;have hfz59_1:=blk_frozen BK428.out 1))
   refine bodyPost_ret (results_cell_row rfl _ _ gb428 54 #[.slice Ao58 t448.length co58,.bool t451] (0,0) _ rfl (by refine zk ?_;refine blk_put (cs:=#[.slice Ao58 t448.length co58,.bool false]) ?_ 1 _ rfl;refine zk ?_;refine blk_put (cs:=#[.slice none 0 0,.bool false]) ?_ 0 _ rfl;refine zk ?_;exact BK428.out) Tryz.underlying54 rfl (by kernel_rfl)) rfl ?_
   exact⟨_,zf,by refine zR ?_;exact Kd.R_mono (Kd.R_far (p:=⟨gb428,1,none⟩) (Kd.R_far (p:=⟨gb428,0,none⟩) (Kd.R_types HO450.out BK428.out (by decide)) (fun _ hk=>hk.2) (.slice Ao58 t448.length co58)) (fun _ hk=>hk.2) (.bool t451)) (fun _ hk=>hk.1.1.1),zb⟩

end Go.Proofs.YtcbohpmdeboeoaaGreatDoorRR.X

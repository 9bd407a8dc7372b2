-- Printed by xprint.py, this session's own program (wip/tool), out of the translation. Lean checks it.
import Derived.Test.YtcbohpmdeboeoaaGreatDoorRRZ
import Derived.Test.YtcbohpmdeboeoaaGreatDoorRRX0
import Derived.Test.YtcbohpmdeboeoaaGreatDoorRRX1
import Derived.Test.YtcbohpmdeboeoaaGreatDoorRRX2
import Derived.Test.YtcbohpmdeboeoaaGreatDoorRRX6
namespace Go.Proofs.YtcbohpmdeboeoaaGreatDoorRR.X
open Go.Proofs.YtcbohpmdeboeoaaGreatDoorRR.Z
open Go.RowKit Go.Proofs.YtcbohpmdeboeoaaGreatDoorRRW.PrintWords Go.Proofs.YtcbohpmdeboeoaaGreatDoorRRW.PrintLast Go.Proofs.YtcbohpmdeboeoaaGreatDoorRRW.PrintMore
open List renaming setIfInBounds_toArray → sA, set_cons_zero → sZ, set_cons_succ → sS
open Aside0 renaming mk → am
open Bool renaming true → tt, false → ff
set_option maxHeartbeats 8000000
set_option maxRecDepth 100000
attribute [local go_sem] max2_int min2_int max_two min_two max_three min_three max_four min_four   -- for this text's walks alone
set_option linter.unusedVariables false
set_option linter.unusedSimpArgs false

/-! ### nat_DivMod: function 45 -/
def nat_DivMod.f (k : Nat) (l0 : List Int) (l1 : List Int) : Option (List Int×List Int×Bool):=(nat_of.f k l1).bind fun t303=>(if (t303.length : Int) = 0 then(some (([] : List Int),([] : List Int),false)) else((nat_of.f k l0).bind fun t307=>((nat_number_parted.f k t307 t303).bind fun bt310=>((nat_number_row.f k bt310.1).bind fun t318=>((nat_number_row.f k bt310.2).bind fun t321=>(some (t318,t321,true)))))))
def nat_DivMod.T4 : Bool×List (List Nat×List Nat):=(true,[([],[]),([0],[0]),([],[]),([1,2,1],[1,2]),([3],[3]),([4],[4]),([4],[4]),([],[]),([],[]),([7,5,3,0,1,2,3,4,5,7,8],[5,7]),([8,6,9,0,1,2,3,4,5,6,7,8,9],[6,8])])
def nat_DivMod.B4 : List Nat:=[0,1,0,7,15,31,31,0,0,447,1023]
theorem nat_DivMod.tab4 : rtab .any (opsOf Tryz.f45 4) = nat_DivMod.T4:=by kernel_rfl
theorem nat_DivMod.bits4 : waitsOk nat_DivMod.T4.2 nat_DivMod.B4 = true:=by kernel_rfl
theorem nat_DivMod.calls (k : Nat) (A0 : Option Addr) (c0 : Nat) (l0 : List Int) (A1 : Option Addr) (c1 : Nat) (l1 : List Int) (r1 : List Int) (r2 : List Int) (r3 : Bool) (w : World) (hr0 : Kd.C (Kd.int .u32) w A0 l0.length l0) (hc0 : l0.length≤c0) (hr1 : Kd.C (Kd.int .u32) w A1 l1.length l1) (hc1 : l1.length≤c1) (h : nat_DivMod.f k l0 l1 = some (r1,r2,r3)) :
  Calls Tryz.prog 45 #[.slice A0 l0.length c0,.slice A1 l1.length c1] w fun e w'=>∃ v0_ v1_ : Value,e = .returned (.tuple #[v0_,v1_,.bool r3])∧Kd.R (Kd.int .u32) 60 w' w.heap.size (fun k_=>some k_≠(v1_ : Value).ownBlock) v0_ r1∧Kd.R (Kd.int .u32) 60 w' w.heap.size (fun k_=>some k_≠(v0_ : Value).ownBlock) v1_ r2∧Below w.heap.size w w':=by
 have hu83:=Tryz.underlying83
 have HR0:=am hr0
 have HC0:=am hc0
 clear hr0 hc0
 have HR1:=am hr1
 have HC1:=am hc1
 clear hr1 hc1
 have HB:=am (Below.refl w.heap.size w)
 have H : ((nat_of.f k l1).bind fun t303=>(if (t303.length : Int) = 0 then(some (([] : List Int),([] : List Int),false)) else((nat_of.f k l0).bind fun t307=>((nat_number_parted.f k t307 t303).bind fun bt310=>((nat_number_row.f k bt310.1).bind fun t318=>((nat_number_row.f k bt310.2).bind fun t321=>(some (t318,t321,true)))))))) = some (r1,r2,r3):=h
 clear h
 replace H:=Option.bind_eq_some_iff.mp H
 obtain⟨t303,A30,H⟩:=H
 try dsimp only at H
 have A3:=am A30
 clear A30
 by_cases c4 : (t303.length : Int) = 0
 ·rw [if_pos c4] at H
  have c4b0 : ((t303.length : Int) == 0) = true:=beq_iff_eq.mpr c4
  have c4b1 : ((t303.length : Int) != 0) = false:=bne_eq_false_iff_eq.mpr c4
  clear c4
  simp only [Option.some.injEq,Prod.mk.injEq] at H
  obtain⟨rfl,rfl,rfl⟩:=H
  go_enter Tryz.func45,Tryz.ntmps45
  go_wp2_with (first |((with_reducible refine gate_callee (f:=72) rfl ?_);refine goesL_ (some 11) rfl rfl Tryz.func72 (by kernel_rfl) rfl #[.slice A1 l1.length c1] rfl zl ?_;(with_reducible refine(nat_of.calls k _ _ l1 t303 _ ?side1 ?side2 A3.out).mono ?_);(case side1=>exact zC HR1.out);(case side2=>exact HC1.out);rintro e w5 ⟨v304,rfl,ho0,hb⟩;refine⟨_,rfl,?_⟩;have HO305:=am (Kd.R_lower ho0 (below_size zb));replace HB:=am (below_step zb hb);(try clear hb);(try clear ho0)) |((with_reducible refine gate_dst (N:=7) rfl ?_);refine box_event ?hg (N:=7) ?hd (cs:=#[.slice none 0 0]) (t:=83) ?hr ?_;(case hd=>rfl);(case hg=>rfl);(case hr=>exact zh);intro gb306 hg w6 hbox hb;replace HO305:=rb HO305 hb;have BK306:=am (hbox);have GW306:=gw w hg;have GE306:=gw w hg;replace HB:=am (below_step zb hb);clear hb hbox hg;obtain⟨Ao7,co7,eo7⟩:=Kd.R_slice HO305.out;subst eo7;have hcz8_0 : w6.cell? ⟨gb306,0,none⟩ = some (.slice none 0 0):=(blk_cell BK306.out 0).trans rfl;have hfz8_0:=blk_frozen BK306.out 0))
  go_ret3
  exact⟨_,_,zf,by first | exact Kd.R_nil _ _ _ _ _ | exact Kd.N_nil _ _ _ _ _ | exact Kd.V_nil _ _ _ _ _ | exact Kd.Q_nil _ _ _ _ _ | exact Kd.S_nil _ _ _ _ _,by first | exact Kd.R_nil _ _ _ _ _ | exact Kd.N_nil _ _ _ _ _ | exact Kd.V_nil _ _ _ _ _ | exact Kd.Q_nil _ _ _ _ _ | exact Kd.S_nil _ _ _ _ _,zb⟩
 ·rw [if_neg c4] at H
  have c4b0 : ((t303.length : Int) == 0) = false:=beq_eq_false_iff_ne.mpr c4
  have c4b1 : ((t303.length : Int) != 0) = true:=bne_iff_ne.mpr c4
  have c4b2 : ¬ (t303 = []):=fun h_=>c4 (by rw [h_];rfl)
  replace H:=Option.bind_eq_some_iff.mp H
  obtain⟨t307,A90,H⟩:=H
  try dsimp only at H
  have A9:=am A90
  clear A90
  replace H:=Option.bind_eq_some_iff.mp H
  obtain⟨⟨t310,t313⟩,A100,H⟩:=H
  try dsimp only at H
  have A10:=am A100
  clear A100
  replace H:=Option.bind_eq_some_iff.mp H
  obtain⟨t318,A110,H⟩:=H
  try dsimp only at H
  have A11:=am A110
  clear A110
  replace H:=Option.bind_eq_some_iff.mp H
  obtain⟨t321,A120,H⟩:=H
  try dsimp only at H
  have A12:=am A120
  clear A120
  simp only [Option.some.injEq,Prod.mk.injEq] at H
  obtain⟨rfl,rfl,rfl⟩:=H
  go_enter Tryz.func45,Tryz.ntmps45
  try go_wp2_with (first |((with_reducible refine gate_callee (f:=72) rfl ?_);refine goesL_ (some 11) rfl rfl Tryz.func72 (by kernel_rfl) rfl #[.slice A1 l1.length c1] rfl zl ?_;(with_reducible refine(nat_of.calls k _ _ l1 t303 _ ?side1 ?side2 A3.out).mono ?_);(case side1=>exact zC HR1.out);(case side2=>exact HC1.out);rintro e w13 ⟨v304,rfl,ho0,hb⟩;refine⟨_,rfl,?_⟩;have HO305:=am (Kd.R_lower ho0 (below_size zb));replace HB:=am (below_step zb hb);(try clear hb);(try clear ho0)) |((with_reducible refine gate_dst (N:=7) rfl ?_);refine box_event ?hg (N:=7) ?hd (cs:=#[.slice none 0 0]) (t:=83) ?hr ?_;(case hd=>rfl);(case hg=>rfl);(case hr=>exact zh);intro gb306 hg w14 hbox hb;replace HO305:=rb HO305 hb;have BK306:=am (hbox);have GW306:=gw w hg;have GE306:=gw w hg;replace HB:=am (below_step zb hb);clear hb hbox hg;obtain⟨Ao15,co15,eo15⟩:=Kd.R_slice HO305.out;subst eo15;have hcz16_0 : w14.cell? ⟨gb306,0,none⟩ = some (.slice none 0 0):=(blk_cell BK306.out 0).trans rfl;have hfz16_0:=blk_frozen BK306.out 0))
  have n0_ : Aside0 (Kd.R (Kd.int .u64) 59 (w14.setCell ⟨gb306,0,none⟩ (.slice Ao15 t303.length co15)) w.heap.size (fun _=>True) (.slice Ao15 t303.length co15) t303):=⟨by refine zR ?_;exact Kd.R_mono (Kd.R_far (p:=⟨gb306,0,none⟩) (Kd.R_types HO305.out BK306.out (by decide)) (fun _ hk=>hk.2) (.slice Ao15 t303.length co15)) (fun _ hk=>trivial)⟩
  have n1_ : Aside0 ((w14.setCell ⟨gb306,0,none⟩ (.slice Ao15 t303.length co15)).heap[gb306]? = some (.cells #[.slice Ao15 t303.length co15] 83 (0,0))):=⟨by refine zk ?_;refine blk_put (cs:=#[.slice none 0 0]) ?_ 0 _ rfl;refine zk ?_;exact BK306.out⟩
  have n2_ : Aside0 (Below w.heap.size w (w14.setCell ⟨gb306,0,none⟩ (.slice Ao15 t303.length co15))):=⟨zb⟩
  (try clear HO305)
  (try clear BK306)
  (try clear HB)
  generalize (w14.setCell ⟨gb306,0,none⟩ (.slice Ao15 t303.length co15)) = w17 at n0_ n1_ n2_ ⊢
  have HO305:=n0_
  have BK306:=n1_
  have HB:=n2_
  clear n0_ n1_ n2_
  replace HO305:=am (Kd.R_drew HO305.out)
  replace BK306:=am (blk_drew BK306.out)
  replace HB:=am (below_drew1 HB.out)
  refine start_ (n:=11) (S:=fun w'=>True) (ds:=[]) #[ff,ff,ff,ff,ff,ff,ff,ff,ff,ff,ff] (by kernel_rfl) rfl rfl trivial (fun hHeld=>?_);refine with_tabW nat_DivMod.tab4 nat_DivMod.bits4 (fun HT_ HW_=>?_)
  generalize w17.drew = w18 at HO305 BK306 HB hHeld ⊢
  refine pu (i:=0) (N:=some 17) #[tt,ff,ff,ff,ff,ff,ff,ff,ff,ff,ff] (any_of HT_.out (by kernel_rfl)) ?_
  refine inv_at [1,2,3,4,5,6,7,8,9,10] (fun a0_ b a w'=>∃ (v308 : Value) (v311 : Value) (v314 : Value) (gb316 : Nat) (gb317 : Nat) (m1_ : Value) (m3_ : Value) (m4_ : Value) (m5_ : Value) (m6_ : Value) (m7_ : Value) (m8_ : Value),a = putSel a0_ b [(1,18,m1_),(2,19,.agg #[.slice Ao15 t303.length co15]),(3,20,m3_),(4,16,m4_),(5,21,m5_),(6,22,m6_),(7,8,m7_),(8,9,m8_)]∧(Kd.R (Kd.int .u64) 59 w' w.heap.size (fun _=>True) (.slice Ao15 t303.length co15) t303)∧(w'.heap[gb306]? = some (.cells #[.slice Ao15 t303.length co15] 83 (0,0)))∧(Below w.heap.size w w')∧(b 7 = true→b 8 = true→gb317≠gb316)∧(b 7 = true→b 8 = true→gb316≠gb317)∧(b 1 = true→Kd.R (Kd.int .u64) 59 w' w.heap.size (fun k_=>some k_≠(.slice Ao15 t303.length co15 : Value).ownBlock) v308 t307)∧(b 1 = true→∀ k_,(.slice Ao15 t303.length co15 : Value).ownBlock = some k_→some k_≠(v308 : Value).ownBlock)∧(b 3 = true→Kd.R (Kd.int .u64) 59 w' w.heap.size (fun k_=>some k_≠(.slice Ao15 t303.length co15 : Value).ownBlock) v311 t310)∧(b 3 = true→Kd.R (Kd.int .u64) 59 w' w.heap.size (fun k_=>some k_≠(.slice Ao15 t303.length co15 : Value).ownBlock) v314 t313)∧(b 3 = true→∀ k_,(.slice Ao15 t303.length co15 : Value).ownBlock = some k_→some k_≠(v311 : Value).ownBlock)∧(b 3 = true→∀ k_,(.slice Ao15 t303.length co15 : Value).ownBlock = some k_→some k_≠(v314 : Value).ownBlock)∧(b 3 = true→∀ k_,(v308 : Value).ownBlock = some k_→some k_≠(v311 : Value).ownBlock)∧(b 3 = true→∀ k_,(v308 : Value).ownBlock = some k_→some k_≠(v314 : Value).ownBlock)∧(b 3 = true→∀ k_,(v311 : Value).ownBlock = some k_→some k_≠(v308 : Value).ownBlock)∧(b 3 = true→∀ k_,(v311 : Value).ownBlock = some k_→some k_≠(v314 : Value).ownBlock)∧(b 3 = true→∀ k_,(v314 : Value).ownBlock = some k_→some k_≠(v308 : Value).ownBlock)∧(b 3 = true→∀ k_,(v314 : Value).ownBlock = some k_→some k_≠(v311 : Value).ownBlock)∧(b 7 = true→b 9 = false→w'.heap[gb316]? = some (.cells #[.slice none 0 0] 83 (0,0)))∧(b 7 = true→w.heap.size≤gb316)∧(b 7 = true→w.heap.size≤gb316)∧(b 7 = true→gb306≠gb316)∧(b 7 = true→gb316≠gb306)∧(b 8 = true→b 10 = false→w'.heap[gb317]? = some (.cells #[.slice none 0 0] 83 (0,0)))∧(b 8 = true→w.heap.size≤gb317)∧(b 8 = true→w.heap.size≤gb317)∧(b 8 = true→gb306≠gb317)∧(b 8 = true→gb317≠gb306)∧(b 9 = true→w'.heap[gb316]? = some (.cells #[v311] 83 (0,0)))∧(b 10 = true→w'.heap[gb317]? = some (.cells #[v314] 83 (0,0)))∧(b 1 = true→(m1_ : Value) = .agg #[v308])∧(b 3 = true→(m3_ : Value) = .tuple #[.agg #[v311],.agg #[v314]])∧(b 4 = true→(m4_ : Value) = .tuple #[.agg #[v311],.agg #[v314]])∧(b 5 = true→(m5_ : Value) = .agg #[v311])∧(b 6 = true→(m6_ : Value) = .agg #[v314])∧(b 7 = true→(m7_ : Value) = .pointer (some ⟨gb316,0,none⟩))∧(b 8 = true→(m8_ : Value) = .pointer (some ⟨gb317,0,none⟩))) HT_.out HW_.out (by kernel_rfl) (by kernel_rfl) ?_ ?_ ?_
  ·exact⟨.bool false,.bool false,.bool false,0,0,.bool false,.bool false,.bool false,.bool false,.bool false,.bool false,.bool false,by simp only [putSel,Bool.false_eq_true,if_false],(by first | exact HO305.out | exact Kd.R_mono HO305.out (fun _ h_=>zD h_) | exact Kd.V_mono HO305.out (fun _ h_=>zD h_)),BK306.out,HB.out,fun h_=>absurd h_ (by decide),fun h_=>absurd h_ (by decide),fun h_=>absurd h_ (by decide),fun h_=>absurd h_ (by decide),fun h_=>absurd h_ (by decide),fun h_=>absurd h_ (by decide),fun h_=>absurd h_ (by decide),fun h_=>absurd h_ (by decide),fun h_=>absurd h_ (by decide),fun h_=>absurd h_ (by decide),fun h_=>absurd h_ (by decide),fun h_=>absurd h_ (by decide),fun h_=>absurd h_ (by decide),fun h_=>absurd h_ (by decide),fun h_=>absurd h_ (by decide),fun h_=>absurd h_ (by decide),fun h_=>absurd h_ (by decide),fun h_=>absurd h_ (by decide),fun h_=>absurd h_ (by decide),fun h_=>absurd h_ (by decide),fun h_=>absurd h_ (by decide),fun h_=>absurd h_ (by decide),fun h_=>absurd h_ (by decide),fun h_=>absurd h_ (by decide),fun h_=>absurd h_ (by decide),fun h_=>absurd h_ (by decide),fun h_=>absurd h_ (by decide),fun h_=>absurd h_ (by decide),fun h_=>absurd h_ (by decide),fun h_=>absurd h_ (by decide),fun h_=>absurd h_ (by decide),fun h_=>absurd h_ (by decide),fun h_=>absurd h_ (by decide)⟩
  ·skip
   clear BK306 HB HO305
   refine steps_cons ?_ ?_
   ·rintro b a w' ⟨v308,v311,v314,gb316,gb317,m1_,m3_,m4_,m5_,m6_,m7_,m8_,ha,Q_HO305,Q_BK306,Q_HB,Q_NB317_316,Q_NB316_317,Q_HO309,Q_AP305_309,Q_HO312,Q_HO315,Q_AP305_312,Q_AP305_315,Q_AP309_312,Q_AP309_315,Q_AP312_309,Q_AP312_315,Q_AP315_309,Q_AP315_312,Q_BK316,Q_GW316,Q_GE316,Q_NB306_316,Q_NB316_306,Q_BK317,Q_GW317,Q_GE317,Q_NB306_317,Q_NB317_306,Q_BK316_e9,Q_BK317_e10,Q_X1_,Q_X3_,Q_X4_,Q_X5_,Q_X6_,Q_X7_,Q_X8_⟩ hb_ hon hoff
    refine⟨_,rfl,fun K hK=>?_⟩
    have e17 : a.tmps[17]? = some (.slice A0 l0.length c0):=by rw [ha];exact(putSel_off rfl).trans rfl
    replace ha:=am ha
    have HO305:=am Q_HO305
    have BK306:=am Q_BK306
    have HB:=am Q_HB
    refine goes_ Tryz.func72 (by kernel_rfl) rfl #[.slice A0 l0.length c0] (by rfl) rfl rfl (by first |(simp only [List.map_toArray,List.map_cons,List.map_nil,Act.eval,Array.getD_eq_getD_getElem?,Option.getD_some,e17];done) |(simp only [List.map_toArray,List.map_cons,List.map_nil,Act.eval,Array.getD_eq_getD_getElem?,Option.getD_some,e17];rfl)) ?_
    with_reducible refine(nat_of.calls k _ _ l0 t307 _ ?side1 ?side2 A9.out).mono ?_
    (case side1=>repeat (first | exact(Kd.C_below HR0.out HB.out) |(with_reducible refine Kd.C_alloc ?_ _) |(with_reducible refine Kd.C_drewN ?_ _) |(with_reducible refine Kd.C_drew ?_)))
    (case side2=>exact HC0.out)
    rintro e w19 ⟨v308,rfl,ho0,hb⟩
    refine⟨_,rfl,?_⟩
    have n0_:=re HO305 (Kd.R_base ho0) hb
    have n1_:=am (Kd.R_lower (Kd.R_new' ho0 (Kd.R_lt (zR HO305.out))) (below_size zb))
    have n2_:=kb BK306 hb
    have n3_:=am (below_step zb hb)
    have z_BK316:=fun (h0_ : b 7 = true) (h1_ : b 9 = false)=>(show w19.heap[gb316]? = some (.cells #[.slice none 0 0] 83 (0,0)) from by first | exact(blk_below (g:=gb316) (o:=.cells #[.slice none 0 0] 83 (0,0)) (by refine zk ?_;exact(Q_BK316 h0_ h1_)) hb))
    have z_BK317:=fun (h0_ : b 8 = true) (h1_ : b 10 = false)=>(show w19.heap[gb317]? = some (.cells #[.slice none 0 0] 83 (0,0)) from by first | exact(blk_below (g:=gb317) (o:=.cells #[.slice none 0 0] 83 (0,0)) (by refine zk ?_;exact(Q_BK317 h0_ h1_)) hb))
    clear HO305
    clear BK306
    clear HB
    have HO305:=n0_
    have HO309:=n1_
    have BK306:=n2_
    have HB:=n3_
    clear n0_ n1_ n2_ n3_
    (try clear hb)
    (try clear hb2)
    (try clear hk)
    (try clear hi)
    (try clear ho0)
    refine hK.out _ _ ⟨v308,v311,v314,gb316,gb317,(.agg #[v308]),m3_,m4_,m5_,m6_,m7_,m8_,(by rw [ha.out];exact putSel_upk 0 hb_ rfl rfl rfl),(by refine zR ?_;exact Kd.R_mono HO305.out (fun _ hk=>by first | exact hk.2 | exact zD hk)),(zk BK306.out),zb,Q_NB317_316,Q_NB316_317,fun _=>(by refine zR ?_;exact Kd.R_mono HO309.out (fun _ hk=>by first | exact hk.2 | exact zD hk)),fun _=>(fun k_ hk_=>(HO305.out.1 k_ hk_).2),fun h0_=>absurd ((hoff 3 (by kernel_rfl)).symm.trans h0_) (by decide),fun h0_=>absurd ((hoff 3 (by kernel_rfl)).symm.trans h0_) (by decide),fun h0_=>absurd ((hoff 3 (by kernel_rfl)).symm.trans h0_) (by decide),fun h0_=>absurd ((hoff 3 (by kernel_rfl)).symm.trans h0_) (by decide),fun h0_=>absurd ((hoff 3 (by kernel_rfl)).symm.trans h0_) (by decide),fun h0_=>absurd ((hoff 3 (by kernel_rfl)).symm.trans h0_) (by decide),fun h0_=>absurd ((hoff 3 (by kernel_rfl)).symm.trans h0_) (by decide),fun h0_=>absurd ((hoff 3 (by kernel_rfl)).symm.trans h0_) (by decide),fun h0_=>absurd ((hoff 3 (by kernel_rfl)).symm.trans h0_) (by decide),fun h0_=>absurd ((hoff 3 (by kernel_rfl)).symm.trans h0_) (by decide),z_BK316,Q_GW316,Q_GE316,Q_NB306_316,Q_NB316_306,z_BK317,Q_GW317,Q_GE317,Q_NB306_317,Q_NB317_306,fun h0_=>absurd ((hoff 9 (by kernel_rfl)).symm.trans h0_) (by decide),fun h0_=>absurd ((hoff 10 (by kernel_rfl)).symm.trans h0_) (by decide),fun _=>rfl,fun h0_=>absurd ((hoff 3 (by kernel_rfl)).symm.trans h0_) (by decide),fun h0_=>absurd ((hoff 4 (by kernel_rfl)).symm.trans h0_) (by decide),fun h0_=>absurd ((hoff 5 (by kernel_rfl)).symm.trans h0_) (by decide),fun h0_=>absurd ((hoff 6 (by kernel_rfl)).symm.trans h0_) (by decide),Q_X7_,Q_X8_⟩
   refine steps_cons ?_ ?_
   ·rintro b a w' ⟨v308,v311,v314,gb316,gb317,m1_,m3_,m4_,m5_,m6_,m7_,m8_,ha,Q_HO305,Q_BK306,Q_HB,Q_NB317_316,Q_NB316_317,Q_HO309,Q_AP305_309,Q_HO312,Q_HO315,Q_AP305_312,Q_AP305_315,Q_AP309_312,Q_AP309_315,Q_AP312_309,Q_AP312_315,Q_AP315_309,Q_AP315_312,Q_BK316,Q_GW316,Q_GE316,Q_NB306_316,Q_NB316_306,Q_BK317,Q_GW317,Q_GE317,Q_NB306_317,Q_NB317_306,Q_BK316_e9,Q_BK317_e10,Q_X1_,Q_X3_,Q_X4_,Q_X5_,Q_X6_,Q_X7_,Q_X8_⟩ hb_ hon hoff
    refine⟨_,rfl,fun K hK=>?_⟩
    have e7 : a.tmps[7]? = some (.pointer (some ⟨gb306,0,none⟩)):=by rw [ha];exact(putSel_off rfl).trans rfl
    replace ha:=am ha
    have HO305:=am Q_HO305
    have BK306:=am Q_BK306
    have HB:=am Q_HB
    have hc0_ : w'.cell? ⟨gb306,0,none⟩ = some (.slice Ao15 t303.length co15):=(blk_cell BK306.out 0).trans rfl
    refine value_ (w1:=w') (v:=.agg #[.slice Ao15 t303.length co15]) (by rfl) rfl ?_ ?_
    ·go_simp
     (try simp only [i64_w])
     try first | rfl |(simp only [bne,Bool.not_not];done) |(simp [bne];done)
    refine hK.out _ _ ⟨v308,v311,v314,gb316,gb317,m1_,m3_,m4_,m5_,m6_,m7_,m8_,(by rw [ha.out];exact putSel_upk 1 hb_ rfl rfl rfl),Q_HO305,Q_BK306,Q_HB,Q_NB317_316,Q_NB316_317,Q_HO309,Q_AP305_309,fun h0_=>absurd ((hoff 3 (by kernel_rfl)).symm.trans h0_) (by decide),fun h0_=>absurd ((hoff 3 (by kernel_rfl)).symm.trans h0_) (by decide),fun h0_=>absurd ((hoff 3 (by kernel_rfl)).symm.trans h0_) (by decide),fun h0_=>absurd ((hoff 3 (by kernel_rfl)).symm.trans h0_) (by decide),fun h0_=>absurd ((hoff 3 (by kernel_rfl)).symm.trans h0_) (by decide),fun h0_=>absurd ((hoff 3 (by kernel_rfl)).symm.trans h0_) (by decide),fun h0_=>absurd ((hoff 3 (by kernel_rfl)).symm.trans h0_) (by decide),fun h0_=>absurd ((hoff 3 (by kernel_rfl)).symm.trans h0_) (by decide),fun h0_=>absurd ((hoff 3 (by kernel_rfl)).symm.trans h0_) (by decide),fun h0_=>absurd ((hoff 3 (by kernel_rfl)).symm.trans h0_) (by decide),Q_BK316,Q_GW316,Q_GE316,Q_NB306_316,Q_NB316_306,Q_BK317,Q_GW317,Q_GE317,Q_NB306_317,Q_NB317_306,fun h0_=>absurd ((hoff 9 (by kernel_rfl)).symm.trans h0_) (by decide),fun h0_=>absurd ((hoff 10 (by kernel_rfl)).symm.trans h0_) (by decide),Q_X1_,fun h0_=>absurd ((hoff 3 (by kernel_rfl)).symm.trans h0_) (by decide),fun h0_=>absurd ((hoff 4 (by kernel_rfl)).symm.trans h0_) (by decide),fun h0_=>absurd ((hoff 5 (by kernel_rfl)).symm.trans h0_) (by decide),fun h0_=>absurd ((hoff 6 (by kernel_rfl)).symm.trans h0_) (by decide),Q_X7_,Q_X8_⟩
   refine steps_cons ?_ ?_
   ·rintro b a w' ⟨v308,v311,v314,gb316,gb317,m1_,m3_,m4_,m5_,m6_,m7_,m8_,ha,Q_HO305,Q_BK306,Q_HB,Q_NB317_316,Q_NB316_317,Q_HO309,Q_AP305_309,Q_HO312,Q_HO315,Q_AP305_312,Q_AP305_315,Q_AP309_312,Q_AP309_315,Q_AP312_309,Q_AP312_315,Q_AP315_309,Q_AP315_312,Q_BK316,Q_GW316,Q_GE316,Q_NB306_316,Q_NB316_306,Q_BK317,Q_GW317,Q_GE317,Q_NB306_317,Q_NB317_306,Q_BK316_e9,Q_BK317_e10,Q_X1_,Q_X3_,Q_X4_,Q_X5_,Q_X6_,Q_X7_,Q_X8_⟩ hb_ hon hoff
    refine⟨_,rfl,fun K hK=>?_⟩
    have e18 : a.tmps[18]? = some (m1_):=by rw [ha];exact putSel_on (e:=(1,18,m1_)) 0 rfl rfl (hon 1 (by kernel_rfl)) rfl
    rw [Q_X1_ (hon 1 (by kernel_rfl))] at e18
    have e19 : a.tmps[19]? = some (.agg #[.slice Ao15 t303.length co15]):=by rw [ha];exact putSel_on (e:=(2,19,.agg #[.slice Ao15 t303.length co15])) 1 rfl rfl (hon 2 (by kernel_rfl)) rfl
    replace ha:=am ha
    have HO305:=am Q_HO305
    have BK306:=am Q_BK306
    have HB:=am Q_HB
    have HO309:=am (Q_HO309 (hon 1 (by kernel_rfl)))
    have AP305_309:=am (Q_AP305_309 (hon 1 (by kernel_rfl)))
    obtain⟨Ao21,co21,eo21⟩:=Kd.R_slice HO309.out
    (first | subst eo21 |(injection eo21 with f1_ f2_ f3_;have f4_:=f1_.symm;have f5_:=f3_.symm;clear f1_ f2_ f3_;subst f4_;subst f5_))
    refine goes_ Tryz.func73 (by kernel_rfl) rfl #[.agg #[.slice Ao21 t307.length co21],.agg #[.slice Ao15 t303.length co15]] (by rfl) rfl rfl (by first |(simp only [List.map_toArray,List.map_cons,List.map_nil,Act.eval,Array.getD_eq_getD_getElem?,Option.getD_some,e18,e19];done) |(simp only [List.map_toArray,List.map_cons,List.map_nil,Act.eval,Array.getD_eq_getD_getElem?,Option.getD_some,e18,e19];rfl)) ?_
    with_reducible refine(nat_number_parted.calls k _ _ t307 _ _ t303 t310 t313 _ ?side1 ?side2 ?side3 ?side4 A10.out).mono ?_
    (case side1=>exact zC (Kd.R_reads' HO309.out).2.2)
    (case side2=>exact(Kd.R_reads' HO309.out).2.1)
    (case side3=>exact zC (Kd.R_reads' HO305.out).2.2)
    (case side4=>exact(Kd.R_reads' HO305.out).2.1)
    rintro e w22 ⟨v311,v314,rfl,ho0,ho1,hb⟩
    refine⟨_,rfl,?_⟩
    have n0_:=am (Kd.R_mono (Kd.R_told (Kd.R_told (Kd.R_old (zR HO305.out) hb) (Kd.R_base ho0)) (Kd.R_base ho1)) (fun _ h_=>h_.1))
    have n1_:=am (Kd.R_mono (Kd.R_told (Kd.R_told (Kd.R_old (zR HO309.out) hb) (Kd.R_base ho0)) (Kd.R_base ho1)) (fun _ h_=>h_.1))
    have n2_:=am (Kd.R_lower (Kd.R_new' (Kd.R_new' ho0 (Kd.R_lt (zR HO305.out))) (Kd.R_lt (zR HO309.out))) (below_size zb))
    have n3_:=am (Kd.R_lower (Kd.R_new' (Kd.R_new' ho1 (Kd.R_lt (zR HO305.out))) (Kd.R_lt (zR HO309.out))) (below_size zb))
    have n4_:=kb BK306 hb
    have n5_:=am (below_step zb hb)
    have z_BK316:=fun (h0_ : b 7 = true) (h1_ : b 9 = false)=>(show w22.heap[gb316]? = some (.cells #[.slice none 0 0] 83 (0,0)) from by first | exact(blk_below (g:=gb316) (o:=.cells #[.slice none 0 0] 83 (0,0)) (by refine zk ?_;exact(Q_BK316 h0_ h1_)) hb))
    have z_BK317:=fun (h0_ : b 8 = true) (h1_ : b 10 = false)=>(show w22.heap[gb317]? = some (.cells #[.slice none 0 0] 83 (0,0)) from by first | exact(blk_below (g:=gb317) (o:=.cells #[.slice none 0 0] 83 (0,0)) (by refine zk ?_;exact(Q_BK317 h0_ h1_)) hb))
    clear HO305
    clear HO309
    clear BK306
    clear HB
    have HO305:=n0_
    have HO309:=n1_
    have HO312:=n2_
    have HO315:=n3_
    have BK306:=n4_
    have HB:=n5_
    clear n0_ n1_ n2_ n3_ n4_ n5_
    (try clear hb)
    (try clear hb2)
    (try clear hk)
    (try clear hi)
    (try clear ho0)
    (try clear ho1)
    refine hK.out _ _ ⟨.slice Ao21 t307.length co21,v311,v314,gb316,gb317,m1_,(.tuple #[.agg #[v311],.agg #[v314]]),m4_,m5_,m6_,m7_,m8_,(by rw [ha.out];exact putSel_upk 2 hb_ rfl rfl rfl),(by refine zR ?_;exact Kd.R_mono HO305.out (fun _ hk=>by first | exact⟨hk.1.1,⟨hk.1.2,hk.2⟩⟩ | exact zD hk)),(zk BK306.out),zb,Q_NB317_316,Q_NB316_317,fun _=>(by refine zR ?_;exact Kd.R_mono HO309.out (fun _ hk=>by first | exact⟨hk.1.1,⟨hk.1.2,hk.2⟩⟩ | exact zD hk)),fun _=>(by first | exact AP305_309.out | exact(fun k_ hk_=>(HO305.out.1 k_ hk_).1.1)),fun _=>(by refine zR ?_;exact Kd.R_mono HO312.out (fun _ hk=>by first | exact⟨hk.1.2,⟨hk.2,hk.1.1⟩⟩ | exact zD hk)),fun _=>(by refine zR ?_;exact Kd.R_mono HO315.out (fun _ hk=>by first | exact⟨hk.1.2,⟨hk.2,hk.1.1⟩⟩ | exact zD hk)),fun _=>(by first | exact AP305_309.out | exact(fun k_ hk_=>(HO305.out.1 k_ hk_).1.2)),fun _=>(by first | exact AP305_309.out | exact(fun k_ hk_=>(HO305.out.1 k_ hk_).2)),fun _=>(fun k_ hk_=>(HO309.out.1 k_ hk_).1.2),fun _=>(fun k_ hk_=>(HO309.out.1 k_ hk_).2),fun _=>(fun k_ hk_=>(HO312.out.1 k_ hk_).2),fun _=>(fun k_ hk_=>(HO312.out.1 k_ hk_).1.1),fun _=>(fun k_ hk_=>(HO315.out.1 k_ hk_).2),fun _=>(fun k_ hk_=>(HO315.out.1 k_ hk_).1.1),z_BK316,Q_GW316,Q_GE316,Q_NB306_316,Q_NB316_306,z_BK317,Q_GW317,Q_GE317,Q_NB306_317,Q_NB317_306,fun h0_=>absurd ((hoff 9 (by kernel_rfl)).symm.trans h0_) (by decide),fun h0_=>absurd ((hoff 10 (by kernel_rfl)).symm.trans h0_) (by decide),Q_X1_,fun _=>rfl,fun h0_=>absurd ((hoff 4 (by kernel_rfl)).symm.trans h0_) (by decide),fun h0_=>absurd ((hoff 5 (by kernel_rfl)).symm.trans h0_) (by decide),fun h0_=>absurd ((hoff 6 (by kernel_rfl)).symm.trans h0_) (by decide),Q_X7_,Q_X8_⟩
   refine steps_cons ?_ ?_
   ·rintro b a w' ⟨v308,v311,v314,gb316,gb317,m1_,m3_,m4_,m5_,m6_,m7_,m8_,ha,Q_HO305,Q_BK306,Q_HB,Q_NB317_316,Q_NB316_317,Q_HO309,Q_AP305_309,Q_HO312,Q_HO315,Q_AP305_312,Q_AP305_315,Q_AP309_312,Q_AP309_315,Q_AP312_309,Q_AP312_315,Q_AP315_309,Q_AP315_312,Q_BK316,Q_GW316,Q_GE316,Q_NB306_316,Q_NB316_306,Q_BK317,Q_GW317,Q_GE317,Q_NB306_317,Q_NB317_306,Q_BK316_e9,Q_BK317_e10,Q_X1_,Q_X3_,Q_X4_,Q_X5_,Q_X6_,Q_X7_,Q_X8_⟩ hb_ hon hoff
    refine⟨_,rfl,fun K hK=>?_⟩
    have e20 : a.tmps[20]? = some (m3_):=by rw [ha];exact putSel_on (e:=(3,20,m3_)) 2 rfl rfl (hon 3 (by kernel_rfl)) rfl
    rw [Q_X3_ (hon 3 (by kernel_rfl))] at e20
    replace ha:=am ha
    have HO305:=am Q_HO305
    have BK306:=am Q_BK306
    have HB:=am Q_HB
    have HO309:=am (Q_HO309 (hon 1 (by kernel_rfl)))
    have AP305_309:=am (Q_AP305_309 (hon 1 (by kernel_rfl)))
    have HO312:=am (Q_HO312 (hon 3 (by kernel_rfl)))
    have HO315:=am (Q_HO315 (hon 3 (by kernel_rfl)))
    have AP305_312:=am (Q_AP305_312 (hon 3 (by kernel_rfl)))
    have AP305_315:=am (Q_AP305_315 (hon 3 (by kernel_rfl)))
    have AP309_312:=am (Q_AP309_312 (hon 3 (by kernel_rfl)))
    have AP309_315:=am (Q_AP309_315 (hon 3 (by kernel_rfl)))
    have AP312_309:=am (Q_AP312_309 (hon 3 (by kernel_rfl)))
    have AP312_315:=am (Q_AP312_315 (hon 3 (by kernel_rfl)))
    have AP315_309:=am (Q_AP315_309 (hon 3 (by kernel_rfl)))
    have AP315_312:=am (Q_AP315_312 (hon 3 (by kernel_rfl)))
    refine value_ (w1:=w') (v:=.tuple #[.agg #[v311],.agg #[v314]]) (by rfl) rfl ?_ ?_
    ·go_simp
     (try simp only [i64_w])
     try first | rfl |(simp only [bne,Bool.not_not];done) |(simp [bne];done)
    refine hK.out _ _ ⟨v308,v311,v314,gb316,gb317,m1_,m3_,(.tuple #[.agg #[v311],.agg #[v314]]),m5_,m6_,m7_,m8_,(by rw [ha.out];exact putSel_upk 3 hb_ rfl rfl rfl),Q_HO305,Q_BK306,Q_HB,Q_NB317_316,Q_NB316_317,Q_HO309,Q_AP305_309,Q_HO312,Q_HO315,Q_AP305_312,Q_AP305_315,Q_AP309_312,Q_AP309_315,Q_AP312_309,Q_AP312_315,Q_AP315_309,Q_AP315_312,Q_BK316,Q_GW316,Q_GE316,Q_NB306_316,Q_NB316_306,Q_BK317,Q_GW317,Q_GE317,Q_NB306_317,Q_NB317_306,fun h0_=>absurd ((hoff 9 (by kernel_rfl)).symm.trans h0_) (by decide),fun h0_=>absurd ((hoff 10 (by kernel_rfl)).symm.trans h0_) (by decide),Q_X1_,Q_X3_,fun _=>rfl,fun h0_=>absurd ((hoff 5 (by kernel_rfl)).symm.trans h0_) (by decide),fun h0_=>absurd ((hoff 6 (by kernel_rfl)).symm.trans h0_) (by decide),Q_X7_,Q_X8_⟩
   refine steps_cons ?_ ?_
   ·rintro b a w' ⟨v308,v311,v314,gb316,gb317,m1_,m3_,m4_,m5_,m6_,m7_,m8_,ha,Q_HO305,Q_BK306,Q_HB,Q_NB317_316,Q_NB316_317,Q_HO309,Q_AP305_309,Q_HO312,Q_HO315,Q_AP305_312,Q_AP305_315,Q_AP309_312,Q_AP309_315,Q_AP312_309,Q_AP312_315,Q_AP315_309,Q_AP315_312,Q_BK316,Q_GW316,Q_GE316,Q_NB306_316,Q_NB316_306,Q_BK317,Q_GW317,Q_GE317,Q_NB306_317,Q_NB317_306,Q_BK316_e9,Q_BK317_e10,Q_X1_,Q_X3_,Q_X4_,Q_X5_,Q_X6_,Q_X7_,Q_X8_⟩ hb_ hon hoff
    refine⟨_,rfl,fun K hK=>?_⟩
    have e16 : a.tmps[16]? = some (m4_):=by rw [ha];exact putSel_on (e:=(4,16,m4_)) 3 rfl rfl (hon 4 (by kernel_rfl)) rfl
    rw [Q_X4_ (hon 4 (by kernel_rfl))] at e16
    replace ha:=am ha
    have HO305:=am Q_HO305
    have BK306:=am Q_BK306
    have HB:=am Q_HB
    have HO309:=am (Q_HO309 (hon 1 (by kernel_rfl)))
    have AP305_309:=am (Q_AP305_309 (hon 1 (by kernel_rfl)))
    have HO312:=am (Q_HO312 (hon 3 (by kernel_rfl)))
    have HO315:=am (Q_HO315 (hon 3 (by kernel_rfl)))
    have AP305_312:=am (Q_AP305_312 (hon 3 (by kernel_rfl)))
    have AP305_315:=am (Q_AP305_315 (hon 3 (by kernel_rfl)))
    have AP309_312:=am (Q_AP309_312 (hon 3 (by kernel_rfl)))
    have AP309_315:=am (Q_AP309_315 (hon 3 (by kernel_rfl)))
    have AP312_309:=am (Q_AP312_309 (hon 3 (by kernel_rfl)))
    have AP312_315:=am (Q_AP312_315 (hon 3 (by kernel_rfl)))
    have AP315_309:=am (Q_AP315_309 (hon 3 (by kernel_rfl)))
    have AP315_312:=am (Q_AP315_312 (hon 3 (by kernel_rfl)))
    refine value_ (w1:=w') (v:=.agg #[v311]) (by rfl) rfl ?_ ?_
    ·go_simp
     (try simp only [i64_w])
     try first | rfl |(simp only [bne,Bool.not_not];done) |(simp [bne];done)
    refine hK.out _ _ ⟨v308,v311,v314,gb316,gb317,m1_,m3_,m4_,(.agg #[v311]),m6_,m7_,m8_,(by rw [ha.out];exact putSel_upk 4 hb_ rfl rfl rfl),Q_HO305,Q_BK306,Q_HB,Q_NB317_316,Q_NB316_317,Q_HO309,Q_AP305_309,Q_HO312,Q_HO315,Q_AP305_312,Q_AP305_315,Q_AP309_312,Q_AP309_315,Q_AP312_309,Q_AP312_315,Q_AP315_309,Q_AP315_312,Q_BK316,Q_GW316,Q_GE316,Q_NB306_316,Q_NB316_306,Q_BK317,Q_GW317,Q_GE317,Q_NB306_317,Q_NB317_306,fun h0_=>absurd ((hoff 9 (by kernel_rfl)).symm.trans h0_) (by decide),fun h0_=>absurd ((hoff 10 (by kernel_rfl)).symm.trans h0_) (by decide),Q_X1_,Q_X3_,Q_X4_,fun _=>rfl,Q_X6_,Q_X7_,Q_X8_⟩
   refine steps_cons ?_ ?_
   ·rintro b a w' ⟨v308,v311,v314,gb316,gb317,m1_,m3_,m4_,m5_,m6_,m7_,m8_,ha,Q_HO305,Q_BK306,Q_HB,Q_NB317_316,Q_NB316_317,Q_HO309,Q_AP305_309,Q_HO312,Q_HO315,Q_AP305_312,Q_AP305_315,Q_AP309_312,Q_AP309_315,Q_AP312_309,Q_AP312_315,Q_AP315_309,Q_AP315_312,Q_BK316,Q_GW316,Q_GE316,Q_NB306_316,Q_NB316_306,Q_BK317,Q_GW317,Q_GE317,Q_NB306_317,Q_NB317_306,Q_BK316_e9,Q_BK317_e10,Q_X1_,Q_X3_,Q_X4_,Q_X5_,Q_X6_,Q_X7_,Q_X8_⟩ hb_ hon hoff
    refine⟨_,rfl,fun K hK=>?_⟩
    have e16 : a.tmps[16]? = some (m4_):=by rw [ha];exact putSel_on (e:=(4,16,m4_)) 3 rfl rfl (hon 4 (by kernel_rfl)) rfl
    rw [Q_X4_ (hon 4 (by kernel_rfl))] at e16
    replace ha:=am ha
    have HO305:=am Q_HO305
    have BK306:=am Q_BK306
    have HB:=am Q_HB
    have HO309:=am (Q_HO309 (hon 1 (by kernel_rfl)))
    have AP305_309:=am (Q_AP305_309 (hon 1 (by kernel_rfl)))
    have HO312:=am (Q_HO312 (hon 3 (by kernel_rfl)))
    have HO315:=am (Q_HO315 (hon 3 (by kernel_rfl)))
    have AP305_312:=am (Q_AP305_312 (hon 3 (by kernel_rfl)))
    have AP305_315:=am (Q_AP305_315 (hon 3 (by kernel_rfl)))
    have AP309_312:=am (Q_AP309_312 (hon 3 (by kernel_rfl)))
    have AP309_315:=am (Q_AP309_315 (hon 3 (by kernel_rfl)))
    have AP312_309:=am (Q_AP312_309 (hon 3 (by kernel_rfl)))
    have AP312_315:=am (Q_AP312_315 (hon 3 (by kernel_rfl)))
    have AP315_309:=am (Q_AP315_309 (hon 3 (by kernel_rfl)))
    have AP315_312:=am (Q_AP315_312 (hon 3 (by kernel_rfl)))
    refine value_ (w1:=w') (v:=.agg #[v314]) (by rfl) rfl ?_ ?_
    ·go_simp
     (try simp only [i64_w])
     try first | rfl |(simp only [bne,Bool.not_not];done) |(simp [bne];done)
    refine hK.out _ _ ⟨v308,v311,v314,gb316,gb317,m1_,m3_,m4_,m5_,(.agg #[v314]),m7_,m8_,(by rw [ha.out];exact putSel_upk 5 hb_ rfl rfl rfl),Q_HO305,Q_BK306,Q_HB,Q_NB317_316,Q_NB316_317,Q_HO309,Q_AP305_309,Q_HO312,Q_HO315,Q_AP305_312,Q_AP305_315,Q_AP309_312,Q_AP309_315,Q_AP312_309,Q_AP312_315,Q_AP315_309,Q_AP315_312,Q_BK316,Q_GW316,Q_GE316,Q_NB306_316,Q_NB316_306,Q_BK317,Q_GW317,Q_GE317,Q_NB306_317,Q_NB317_306,Q_BK316_e9,fun h0_=>absurd ((hoff 10 (by kernel_rfl)).symm.trans h0_) (by decide),Q_X1_,Q_X3_,Q_X4_,Q_X5_,fun _=>rfl,Q_X7_,Q_X8_⟩
   refine steps_cons ?_ ?_
   ·rintro b a w' ⟨v308,v311,v314,gb316,gb317,m1_,m3_,m4_,m5_,m6_,m7_,m8_,ha,Q_HO305,Q_BK306,Q_HB,Q_NB317_316,Q_NB316_317,Q_HO309,Q_AP305_309,Q_HO312,Q_HO315,Q_AP305_312,Q_AP305_315,Q_AP309_312,Q_AP309_315,Q_AP312_309,Q_AP312_315,Q_AP315_309,Q_AP315_312,Q_BK316,Q_GW316,Q_GE316,Q_NB306_316,Q_NB316_306,Q_BK317,Q_GW317,Q_GE317,Q_NB306_317,Q_NB317_306,Q_BK316_e9,Q_BK317_e10,Q_X1_,Q_X3_,Q_X4_,Q_X5_,Q_X6_,Q_X7_,Q_X8_⟩ hb_ hon hoff
    refine⟨_,rfl,fun K hK=>?_⟩
    replace ha:=am ha
    have HO305:=am Q_HO305
    have BK306:=am Q_BK306
    have HB:=am Q_HB
    refine box_step ?hg (N:=8) ?hd (cs:=#[.slice none 0 0]) (t:=83) ?hr ?_;(case hd=>rfl);(case hg=>rfl);(case hr=>exact zh)
    intro gb316 hg w19 hbox hb
    have n0_:=rb HO305 hb
    have n1_:=kb BK306 hb
    have n2_:=am (below_step zb hb)
    have n3_:=am (hbox)
    have n4_:=gw w hg
    have n5_:=gw w hg
    have n6_:=nl BK306 hg
    have n7_:=nr BK306 hg
    have z_NB317_316:=fun (h0_ : up b 7 7 = true) (h1_ : up b 7 8 = true)=>(show gb317≠gb316 from((by rw [hg];exact Nat.ne_of_lt (blk_lt (g:=gb317) (o:=.cells #[.slice none 0 0] 83 (0,0)) (by refine zk ?_;exact(Q_BK317 (by first | exact h1_ | simpa [up] using h1_) (hoff 10 (by kernel_rfl))))) : gb317≠gb316)))
    have z_NB316_317:=fun (h0_ : up b 7 7 = true) (h1_ : up b 7 8 = true)=>(show gb316≠gb317 from((by rw [hg];exact Nat.ne_of_gt (blk_lt (g:=gb317) (o:=.cells #[.slice none 0 0] 83 (0,0)) (by refine zk ?_;exact(Q_BK317 (by first | exact h1_ | simpa [up] using h1_) (hoff 10 (by kernel_rfl))))) : gb316≠gb317)))
    have z_HO309:=fun (h0_ : b 1 = true)=>(show Kd.R (Kd.int .u64) 59 w19 w.heap.size (fun k_=>some k_≠(.slice Ao15 t303.length co15 : Value).ownBlock) v308 t307 from by first | exact(Kd.R_below (by refine zR ?_;exact(Q_HO309 h0_)) hb) | exact Kd.R_mono (Kd.R_below (by refine zR ?_;exact(Q_HO309 h0_)) hb) (fun _ h_=>by first | trivial | exact h_ | exact h_.1))
    have z_HO312:=fun (h0_ : b 3 = true)=>(show Kd.R (Kd.int .u64) 59 w19 w.heap.size (fun k_=>some k_≠(.slice Ao15 t303.length co15 : Value).ownBlock) v311 t310 from by first | exact(Kd.R_below (by refine zR ?_;exact(Q_HO312 h0_)) hb) | exact Kd.R_mono (Kd.R_below (by refine zR ?_;exact(Q_HO312 h0_)) hb) (fun _ h_=>by first | trivial | exact h_ | exact h_.1))
    have z_HO315:=fun (h0_ : b 3 = true)=>(show Kd.R (Kd.int .u64) 59 w19 w.heap.size (fun k_=>some k_≠(.slice Ao15 t303.length co15 : Value).ownBlock) v314 t313 from by first | exact(Kd.R_below (by refine zR ?_;exact(Q_HO315 h0_)) hb) | exact Kd.R_mono (Kd.R_below (by refine zR ?_;exact(Q_HO315 h0_)) hb) (fun _ h_=>by first | trivial | exact h_ | exact h_.1))
    have z_BK317:=fun (h0_ : b 8 = true) (h1_ : b 10 = false)=>(show w19.heap[gb317]? = some (.cells #[.slice none 0 0] 83 (0,0)) from by first | exact(blk_below (g:=gb317) (o:=.cells #[.slice none 0 0] 83 (0,0)) (by refine zk ?_;exact(Q_BK317 h0_ h1_)) hb))
    clear HO305
    clear BK306
    clear HB
    have HO305:=n0_
    have BK306:=n1_
    have HB:=n2_
    have BK316:=n3_
    have GW316:=n4_
    have GE316:=n5_
    have NB306_316:=n6_
    have NB316_306:=n7_
    clear n0_ n1_ n2_ n3_ n4_ n5_ n6_ n7_
    clear hb hbox hg
    refine hK.out _ _ ⟨v308,v311,v314,gb316,gb317,m1_,m3_,m4_,m5_,m6_,(.pointer (some ⟨gb316,0,none⟩)),m8_,(by rw [ha.out];exact putSel_upk 6 hb_ rfl rfl rfl),(by refine zR ?_;first | exact HO305.out | exact Kd.R_mono HO305.out (fun _ hk=>zD hk) | exact Kd.V_mono HO305.out (fun _ hk=>zD hk)),(zk BK306.out),zb,@z_NB317_316,@z_NB316_317,z_HO309,Q_AP305_309,z_HO312,z_HO315,Q_AP305_312,Q_AP305_315,Q_AP309_312,Q_AP309_315,Q_AP312_309,Q_AP312_315,Q_AP315_309,Q_AP315_312,fun _ _=>(zk BK316.out),fun _=>GW316.out,fun _=>GE316.out,fun _=>NB306_316.out,fun _=>NB316_306.out,z_BK317,Q_GW317,Q_GE317,Q_NB306_317,Q_NB317_306,fun h0_=>absurd ((hoff 9 (by kernel_rfl)).symm.trans h0_) (by decide),fun h0_=>absurd ((hoff 10 (by kernel_rfl)).symm.trans h0_) (by decide),Q_X1_,Q_X3_,Q_X4_,Q_X5_,Q_X6_,fun _=>rfl,Q_X8_⟩
   refine steps_cons ?_ ?_
   ·rintro b a w' ⟨v308,v311,v314,gb316,gb317,m1_,m3_,m4_,m5_,m6_,m7_,m8_,ha,Q_HO305,Q_BK306,Q_HB,Q_NB317_316,Q_NB316_317,Q_HO309,Q_AP305_309,Q_HO312,Q_HO315,Q_AP305_312,Q_AP305_315,Q_AP309_312,Q_AP309_315,Q_AP312_309,Q_AP312_315,Q_AP315_309,Q_AP315_312,Q_BK316,Q_GW316,Q_GE316,Q_NB306_316,Q_NB316_306,Q_BK317,Q_GW317,Q_GE317,Q_NB306_317,Q_NB317_306,Q_BK316_e9,Q_BK317_e10,Q_X1_,Q_X3_,Q_X4_,Q_X5_,Q_X6_,Q_X7_,Q_X8_⟩ hb_ hon hoff
    refine⟨_,rfl,fun K hK=>?_⟩
    replace ha:=am ha
    have HO305:=am Q_HO305
    have BK306:=am Q_BK306
    have HB:=am Q_HB
    refine box_step ?hg (N:=9) ?hd (cs:=#[.slice none 0 0]) (t:=83) ?hr ?_;(case hd=>rfl);(case hg=>rfl);(case hr=>exact zh)
    intro gb317 hg w19 hbox hb
    have n0_:=rb HO305 hb
    have n1_:=kb BK306 hb
    have n2_:=am (below_step zb hb)
    have n3_:=am (hbox)
    have n4_:=gw w hg
    have n5_:=gw w hg
    have n6_:=nl BK306 hg
    have n7_:=nr BK306 hg
    have z_NB317_316:=fun (h0_ : up b 8 7 = true) (h1_ : up b 8 8 = true)=>(show gb317≠gb316 from((by rw [hg];exact Nat.ne_of_gt (blk_lt (g:=gb316) (o:=.cells #[.slice none 0 0] 83 (0,0)) (by refine zk ?_;exact(Q_BK316 (by first | exact h0_ | simpa [up] using h0_) (hoff 9 (by kernel_rfl))))) : gb317≠gb316)))
    have z_NB316_317:=fun (h0_ : up b 8 7 = true) (h1_ : up b 8 8 = true)=>(show gb316≠gb317 from((by rw [hg];exact Nat.ne_of_lt (blk_lt (g:=gb316) (o:=.cells #[.slice none 0 0] 83 (0,0)) (by refine zk ?_;exact(Q_BK316 (by first | exact h0_ | simpa [up] using h0_) (hoff 9 (by kernel_rfl))))) : gb316≠gb317)))
    have z_HO309:=fun (h0_ : b 1 = true)=>(show Kd.R (Kd.int .u64) 59 w19 w.heap.size (fun k_=>some k_≠(.slice Ao15 t303.length co15 : Value).ownBlock) v308 t307 from by first | exact(Kd.R_below (by refine zR ?_;exact(Q_HO309 h0_)) hb) | exact Kd.R_mono (Kd.R_below (by refine zR ?_;exact(Q_HO309 h0_)) hb) (fun _ h_=>by first | trivial | exact h_ | exact h_.1))
    have z_HO312:=fun (h0_ : b 3 = true)=>(show Kd.R (Kd.int .u64) 59 w19 w.heap.size (fun k_=>some k_≠(.slice Ao15 t303.length co15 : Value).ownBlock) v311 t310 from by first | exact(Kd.R_below (by refine zR ?_;exact(Q_HO312 h0_)) hb) | exact Kd.R_mono (Kd.R_below (by refine zR ?_;exact(Q_HO312 h0_)) hb) (fun _ h_=>by first | trivial | exact h_ | exact h_.1))
    have z_HO315:=fun (h0_ : b 3 = true)=>(show Kd.R (Kd.int .u64) 59 w19 w.heap.size (fun k_=>some k_≠(.slice Ao15 t303.length co15 : Value).ownBlock) v314 t313 from by first | exact(Kd.R_below (by refine zR ?_;exact(Q_HO315 h0_)) hb) | exact Kd.R_mono (Kd.R_below (by refine zR ?_;exact(Q_HO315 h0_)) hb) (fun _ h_=>by first | trivial | exact h_ | exact h_.1))
    have z_BK316:=fun (h0_ : b 7 = true) (h1_ : b 9 = false)=>(show w19.heap[gb316]? = some (.cells #[.slice none 0 0] 83 (0,0)) from by first | exact(blk_below (g:=gb316) (o:=.cells #[.slice none 0 0] 83 (0,0)) (by refine zk ?_;exact(Q_BK316 h0_ h1_)) hb))
    clear HO305
    clear BK306
    clear HB
    have HO305:=n0_
    have BK306:=n1_
    have HB:=n2_
    have BK317:=n3_
    have GW317:=n4_
    have GE317:=n5_
    have NB306_317:=n6_
    have NB317_306:=n7_
    clear n0_ n1_ n2_ n3_ n4_ n5_ n6_ n7_
    clear hb hbox hg
    refine hK.out _ _ ⟨v308,v311,v314,gb316,gb317,m1_,m3_,m4_,m5_,m6_,m7_,(.pointer (some ⟨gb317,0,none⟩)),(by rw [ha.out];exact putSel_upk 7 hb_ rfl rfl rfl),(by refine zR ?_;first | exact HO305.out | exact Kd.R_mono HO305.out (fun _ hk=>zD hk) | exact Kd.V_mono HO305.out (fun _ hk=>zD hk)),(zk BK306.out),zb,@z_NB317_316,@z_NB316_317,z_HO309,Q_AP305_309,z_HO312,z_HO315,Q_AP305_312,Q_AP305_315,Q_AP309_312,Q_AP309_315,Q_AP312_309,Q_AP312_315,Q_AP315_309,Q_AP315_312,z_BK316,Q_GW316,Q_GE316,Q_NB306_316,Q_NB316_306,fun _ _=>(zk BK317.out),fun _=>GW317.out,fun _=>GE317.out,fun _=>NB306_317.out,fun _=>NB317_306.out,fun h0_=>absurd ((hoff 9 (by kernel_rfl)).symm.trans h0_) (by decide),fun h0_=>absurd ((hoff 10 (by kernel_rfl)).symm.trans h0_) (by decide),Q_X1_,Q_X3_,Q_X4_,Q_X5_,Q_X6_,Q_X7_,fun _=>rfl⟩
   refine steps_cons ?_ ?_
   ·rintro b a w' ⟨v308,v311,v314,gb316,gb317,m1_,m3_,m4_,m5_,m6_,m7_,m8_,ha,Q_HO305,Q_BK306,Q_HB,Q_NB317_316,Q_NB316_317,Q_HO309,Q_AP305_309,Q_HO312,Q_HO315,Q_AP305_312,Q_AP305_315,Q_AP309_312,Q_AP309_315,Q_AP312_309,Q_AP312_315,Q_AP315_309,Q_AP315_312,Q_BK316,Q_GW316,Q_GE316,Q_NB306_316,Q_NB316_306,Q_BK317,Q_GW317,Q_GE317,Q_NB306_317,Q_NB317_306,Q_BK316_e9,Q_BK317_e10,Q_X1_,Q_X3_,Q_X4_,Q_X5_,Q_X6_,Q_X7_,Q_X8_⟩ hb_ hon hoff
    refine⟨_,rfl,fun K hK=>?_⟩
    have e8 : a.tmps[8]? = some (m7_):=by rw [ha];exact putSel_on (e:=(7,8,m7_)) 6 rfl rfl (hon 7 (by kernel_rfl)) rfl
    rw [Q_X7_ (hon 7 (by kernel_rfl))] at e8
    have e21 : a.tmps[21]? = some (m5_):=by rw [ha];exact putSel_on (e:=(5,21,m5_)) 4 rfl rfl (hon 5 (by kernel_rfl)) rfl
    rw [Q_X5_ (hon 5 (by kernel_rfl))] at e21
    replace ha:=am ha
    have HO305:=am Q_HO305
    have BK306:=am Q_BK306
    have HB:=am Q_HB
    have NB317_316:=am (Q_NB317_316 (hon 7 (by kernel_rfl)) (hon 8 (by kernel_rfl)))
    have NB316_317:=am (Q_NB316_317 (hon 7 (by kernel_rfl)) (hon 8 (by kernel_rfl)))
    have HO309:=am (Q_HO309 (hon 1 (by kernel_rfl)))
    have AP305_309:=am (Q_AP305_309 (hon 1 (by kernel_rfl)))
    have HO312:=am (Q_HO312 (hon 3 (by kernel_rfl)))
    have HO315:=am (Q_HO315 (hon 3 (by kernel_rfl)))
    have AP305_312:=am (Q_AP305_312 (hon 3 (by kernel_rfl)))
    have AP305_315:=am (Q_AP305_315 (hon 3 (by kernel_rfl)))
    have AP309_312:=am (Q_AP309_312 (hon 3 (by kernel_rfl)))
    have AP309_315:=am (Q_AP309_315 (hon 3 (by kernel_rfl)))
    have AP312_309:=am (Q_AP312_309 (hon 3 (by kernel_rfl)))
    have AP312_315:=am (Q_AP312_315 (hon 3 (by kernel_rfl)))
    have AP315_309:=am (Q_AP315_309 (hon 3 (by kernel_rfl)))
    have AP315_312:=am (Q_AP315_312 (hon 3 (by kernel_rfl)))
    have BK316:=am (Q_BK316 (hon 7 (by kernel_rfl)) hb_)
    have GW316:=am (Q_GW316 (hon 7 (by kernel_rfl)))
    have GE316:=am (Q_GE316 (hon 7 (by kernel_rfl)))
    have NB306_316:=am (Q_NB306_316 (hon 7 (by kernel_rfl)))
    have NB316_306:=am (Q_NB316_306 (hon 7 (by kernel_rfl)))
    have BK317:=am (Q_BK317 (hon 8 (by kernel_rfl)) (hoff 10 (by kernel_rfl)))
    have GW317:=am (Q_GW317 (hon 8 (by kernel_rfl)))
    have GE317:=am (Q_GE317 (hon 8 (by kernel_rfl)))
    have NB306_317:=am (Q_NB306_317 (hon 8 (by kernel_rfl)))
    have NB317_306:=am (Q_NB317_306 (hon 8 (by kernel_rfl)))
    obtain⟨Ao25,co25,eo25⟩:=Kd.R_slice HO312.out
    (first | subst eo25 |(injection eo25 with f1_ f2_ f3_;have f4_:=f1_.symm;have f5_:=f3_.symm;clear f1_ f2_ f3_;subst f4_;subst f5_))
    have hs26 : w'.cell? ⟨gb316,0,none⟩ = some (.slice none 0 0):=(blk_cell BK316.out 0).trans rfl
    have hfs26:=blk_frozen BK316.out 0
    have hns26_0:=NB306_316.out
    have hns26_2:=NB317_316.out
    have hms26_0:=NB316_306.out
    have hms26_2:=NB316_317.out
    refine skip_ (w1:=?_) (by rfl) rfl ?_ ?_
    rotate_left
    ·go_simp
     rfl
    refine hK.out _ _ ⟨v308,.slice Ao25 t310.length co25,v314,gb316,gb317,m1_,m3_,m4_,m5_,m6_,m7_,m8_,(by rw [ha.out];exact putSel_none (v:=undef) rfl),(by refine zR ?_;exact Kd.R_mono (Kd.R_far (p:=⟨gb316,0,none⟩) (Kd.R_types HO305.out BK316.out (by decide)) (fun _ hk=>hk.2) (.slice Ao25 t310.length co25)) (fun _ hk=>by first | exact⟨hk.1.1,⟨hk.1.2.1,hk.1.2.2⟩⟩ | exact zD hk)),(by refine zk ?_;refine blk_far ?_ NB306_316.out _;refine zk ?_;exact BK306.out),zb,fun _ _=>NB317_316.out,fun _ _=>NB316_317.out,fun _=>(by refine zR ?_;exact Kd.R_mono (Kd.R_far (p:=⟨gb316,0,none⟩) (Kd.R_types HO309.out BK316.out (by decide)) (fun _ hk=>hk.2) (.slice Ao25 t310.length co25)) (fun _ hk=>by first | exact⟨hk.1.1,⟨hk.1.2.1,hk.1.2.2⟩⟩ | exact zD hk)),fun _=>(by first | exact AP305_315.out | exact AP305_312.out | exact AP305_309.out | exact(fun k_ hk_=>(HO305.out.1 k_ hk_).1)),fun _=>(by refine zR ?_;exact Kd.R_mono (Kd.R_far (p:=⟨gb316,0,none⟩) (Kd.R_types HO312.out BK316.out (by decide)) (fun _ hk=>hk.2) (.slice Ao25 t310.length co25)) (fun _ hk=>by first | exact⟨hk.1.1,⟨hk.1.2.1,hk.1.2.2⟩⟩ | exact zD hk)),fun _=>(by refine zR ?_;exact Kd.R_mono (Kd.R_far (p:=⟨gb316,0,none⟩) (Kd.R_types HO315.out BK316.out (by decide)) (fun _ hk=>hk.2) (.slice Ao25 t310.length co25)) (fun _ hk=>by first | exact⟨hk.1.1,⟨hk.1.2.1,hk.1.2.2⟩⟩ | exact zD hk)),fun _=>(by first | exact AP305_315.out | exact AP305_312.out | exact AP305_309.out | exact(fun k_ hk_=>(HO305.out.1 k_ hk_).2.1)),fun _=>(by first | exact AP305_315.out | exact AP305_312.out | exact AP305_309.out | exact(fun k_ hk_=>(HO305.out.1 k_ hk_).2.2)),fun _=>(by first | exact AP309_315.out | exact AP309_312.out | exact(fun k_ hk_=>(HO309.out.1 k_ hk_).2.1)),fun _=>(by first | exact AP309_315.out | exact AP309_312.out | exact(fun k_ hk_=>(HO309.out.1 k_ hk_).2.2)),fun _=>(by first | exact AP312_315.out | exact AP312_309.out | exact(fun k_ hk_=>(HO312.out.1 k_ hk_).2.1)),fun _=>(by first | exact AP312_315.out | exact AP312_309.out | exact(fun k_ hk_=>(HO312.out.1 k_ hk_).2.2)),fun _=>(by first | exact AP315_312.out | exact AP315_309.out | exact(fun k_ hk_=>(HO315.out.1 k_ hk_).2.1)),fun _=>(by first | exact AP315_312.out | exact AP315_309.out | exact(fun k_ hk_=>(HO315.out.1 k_ hk_).2.2)),fun _ h1_=>absurd ((up_self b 9).symm.trans h1_) (by decide),fun _=>GW316.out,fun _=>GE316.out,fun _=>NB306_316.out,fun _=>NB316_306.out,fun _ _=>(by refine zk ?_;refine blk_far ?_ NB317_316.out _;refine zk ?_;exact BK317.out),fun _=>GW317.out,fun _=>GE317.out,fun _=>NB306_317.out,fun _=>NB317_306.out,fun _=>(by refine zk ?_;refine blk_put (cs:=#[.slice none 0 0]) ?_ 0 _ rfl;refine zk ?_;exact BK316.out),fun h0_=>absurd ((hoff 10 (by kernel_rfl)).symm.trans h0_) (by decide),Q_X1_,Q_X3_,Q_X4_,Q_X5_,Q_X6_,Q_X7_,Q_X8_⟩
   refine steps_cons ?_ ?_
   ·rintro b a w' ⟨v308,v311,v314,gb316,gb317,m1_,m3_,m4_,m5_,m6_,m7_,m8_,ha,Q_HO305,Q_BK306,Q_HB,Q_NB317_316,Q_NB316_317,Q_HO309,Q_AP305_309,Q_HO312,Q_HO315,Q_AP305_312,Q_AP305_315,Q_AP309_312,Q_AP309_315,Q_AP312_309,Q_AP312_315,Q_AP315_309,Q_AP315_312,Q_BK316,Q_GW316,Q_GE316,Q_NB306_316,Q_NB316_306,Q_BK317,Q_GW317,Q_GE317,Q_NB306_317,Q_NB317_306,Q_BK316_e9,Q_BK317_e10,Q_X1_,Q_X3_,Q_X4_,Q_X5_,Q_X6_,Q_X7_,Q_X8_⟩ hb_ hon hoff
    refine⟨_,rfl,fun K hK=>?_⟩
    have e9 : a.tmps[9]? = some (m8_):=by rw [ha];exact putSel_on (e:=(8,9,m8_)) 7 rfl rfl (hon 8 (by kernel_rfl)) rfl
    rw [Q_X8_ (hon 8 (by kernel_rfl))] at e9
    have e22 : a.tmps[22]? = some (m6_):=by rw [ha];exact putSel_on (e:=(6,22,m6_)) 5 rfl rfl (hon 6 (by kernel_rfl)) rfl
    rw [Q_X6_ (hon 6 (by kernel_rfl))] at e22
    replace ha:=am ha
    have HO305:=am Q_HO305
    have BK306:=am Q_BK306
    have HB:=am Q_HB
    have NB317_316:=am (Q_NB317_316 (hon 7 (by kernel_rfl)) (hon 8 (by kernel_rfl)))
    have NB316_317:=am (Q_NB316_317 (hon 7 (by kernel_rfl)) (hon 8 (by kernel_rfl)))
    have HO309:=am (Q_HO309 (hon 1 (by kernel_rfl)))
    have AP305_309:=am (Q_AP305_309 (hon 1 (by kernel_rfl)))
    have HO312:=am (Q_HO312 (hon 3 (by kernel_rfl)))
    have HO315:=am (Q_HO315 (hon 3 (by kernel_rfl)))
    have AP305_312:=am (Q_AP305_312 (hon 3 (by kernel_rfl)))
    have AP305_315:=am (Q_AP305_315 (hon 3 (by kernel_rfl)))
    have AP309_312:=am (Q_AP309_312 (hon 3 (by kernel_rfl)))
    have AP309_315:=am (Q_AP309_315 (hon 3 (by kernel_rfl)))
    have AP312_309:=am (Q_AP312_309 (hon 3 (by kernel_rfl)))
    have AP312_315:=am (Q_AP312_315 (hon 3 (by kernel_rfl)))
    have AP315_309:=am (Q_AP315_309 (hon 3 (by kernel_rfl)))
    have AP315_312:=am (Q_AP315_312 (hon 3 (by kernel_rfl)))
    have GW316:=am (Q_GW316 (hon 7 (by kernel_rfl)))
    have GE316:=am (Q_GE316 (hon 7 (by kernel_rfl)))
    have NB306_316:=am (Q_NB306_316 (hon 7 (by kernel_rfl)))
    have NB316_306:=am (Q_NB316_306 (hon 7 (by kernel_rfl)))
    have BK317:=am (Q_BK317 (hon 8 (by kernel_rfl)) hb_)
    have GW317:=am (Q_GW317 (hon 8 (by kernel_rfl)))
    have GE317:=am (Q_GE317 (hon 8 (by kernel_rfl)))
    have NB306_317:=am (Q_NB306_317 (hon 8 (by kernel_rfl)))
    have NB317_306:=am (Q_NB317_306 (hon 8 (by kernel_rfl)))
    have BK316:=am (Q_BK316_e9 (hon 9 (by kernel_rfl)))
    obtain⟨Ao27,co27,eo27⟩:=Kd.R_slice HO315.out
    (first | subst eo27 |(injection eo27 with f1_ f2_ f3_;have f4_:=f1_.symm;have f5_:=f3_.symm;clear f1_ f2_ f3_;subst f4_;subst f5_))
    have hs28 : w'.cell? ⟨gb317,0,none⟩ = some (.slice none 0 0):=(blk_cell BK317.out 0).trans rfl
    have hfs28:=blk_frozen BK317.out 0
    have hns28_0:=NB306_317.out
    have hns28_1:=NB316_317.out
    have hms28_0:=NB317_306.out
    have hms28_1:=NB317_316.out
    refine skip_ (w1:=?_) (by rfl) rfl ?_ ?_
    rotate_left
    ·go_simp
     rfl
    refine hK.out _ _ ⟨v308,v311,.slice Ao27 t313.length co27,gb316,gb317,m1_,m3_,m4_,m5_,m6_,m7_,m8_,(by rw [ha.out];exact putSel_none (v:=undef) rfl),(by refine zR ?_;exact Kd.R_mono (Kd.R_far (p:=⟨gb317,0,none⟩) (Kd.R_types HO305.out BK317.out (by decide)) (fun _ hk=>hk.2) (.slice Ao27 t313.length co27)) (fun _ hk=>by first | exact⟨hk.1.1,⟨hk.1.2.1,hk.1.2.2⟩⟩ | exact zD hk)),(by refine zk ?_;refine blk_far ?_ NB306_317.out _;refine zk ?_;exact BK306.out),zb,fun _ _=>NB317_316.out,fun _ _=>NB316_317.out,fun _=>(by refine zR ?_;exact Kd.R_mono (Kd.R_far (p:=⟨gb317,0,none⟩) (Kd.R_types HO309.out BK317.out (by decide)) (fun _ hk=>hk.2) (.slice Ao27 t313.length co27)) (fun _ hk=>by first | exact⟨hk.1.1,⟨hk.1.2.1,hk.1.2.2⟩⟩ | exact zD hk)),fun _=>(by first | exact AP305_315.out | exact AP305_312.out | exact AP305_309.out | exact(fun k_ hk_=>(HO305.out.1 k_ hk_).1)),fun _=>(by refine zR ?_;exact Kd.R_mono (Kd.R_far (p:=⟨gb317,0,none⟩) (Kd.R_types HO312.out BK317.out (by decide)) (fun _ hk=>hk.2) (.slice Ao27 t313.length co27)) (fun _ hk=>by first | exact⟨hk.1.1,⟨hk.1.2.1,hk.1.2.2⟩⟩ | exact zD hk)),fun _=>(by refine zR ?_;exact Kd.R_mono (Kd.R_far (p:=⟨gb317,0,none⟩) (Kd.R_types HO315.out BK317.out (by decide)) (fun _ hk=>hk.2) (.slice Ao27 t313.length co27)) (fun _ hk=>by first | exact⟨hk.1.1,⟨hk.1.2.1,hk.1.2.2⟩⟩ | exact zD hk)),fun _=>(by first | exact AP305_315.out | exact AP305_312.out | exact AP305_309.out | exact(fun k_ hk_=>(HO305.out.1 k_ hk_).2.1)),fun _=>(by first | exact AP305_315.out | exact AP305_312.out | exact AP305_309.out | exact(fun k_ hk_=>(HO305.out.1 k_ hk_).2.2)),fun _=>(by first | exact AP309_315.out | exact AP309_312.out | exact(fun k_ hk_=>(HO309.out.1 k_ hk_).2.1)),fun _=>(by first | exact AP309_315.out | exact AP309_312.out | exact(fun k_ hk_=>(HO309.out.1 k_ hk_).2.2)),fun _=>(by first | exact AP312_315.out | exact AP312_309.out | exact(fun k_ hk_=>(HO312.out.1 k_ hk_).2.1)),fun _=>(by first | exact AP312_315.out | exact AP312_309.out | exact(fun k_ hk_=>(HO312.out.1 k_ hk_).2.2)),fun _=>(by first | exact AP315_312.out | exact AP315_309.out | exact(fun k_ hk_=>(HO315.out.1 k_ hk_).2.1)),fun _=>(by first | exact AP315_312.out | exact AP315_309.out | exact(fun k_ hk_=>(HO315.out.1 k_ hk_).2.2)),fun _ h1_=>absurd ((hon 9 (by kernel_rfl)).symm.trans h1_) (by decide),fun _=>GW316.out,fun _=>GE316.out,fun _=>NB306_316.out,fun _=>NB316_306.out,fun _ h1_=>absurd ((up_self b 10).symm.trans h1_) (by decide),fun _=>GW317.out,fun _=>GE317.out,fun _=>NB306_317.out,fun _=>NB317_306.out,fun _=>(by refine zk ?_;refine blk_far ?_ NB316_317.out _;refine zk ?_;exact BK316.out),fun _=>(by refine zk ?_;refine blk_put (cs:=#[.slice none 0 0]) ?_ 0 _ rfl;refine zk ?_;exact BK317.out),Q_X1_,Q_X3_,Q_X4_,Q_X5_,Q_X6_,Q_X7_,Q_X8_⟩
   exact steps_nil
  rintro b a w28 hall ⟨v308,v311,v314,gb316,gb317,m1_,m3_,m4_,m5_,m6_,m7_,m8_,ha,Q_HO305,Q_BK306,Q_HB,Q_NB317_316,Q_NB316_317,Q_HO309,Q_AP305_309,Q_HO312,Q_HO315,Q_AP305_312,Q_AP305_315,Q_AP309_312,Q_AP309_315,Q_AP312_309,Q_AP312_315,Q_AP315_309,Q_AP315_312,Q_BK316,Q_GW316,Q_GE316,Q_NB306_316,Q_NB316_306,Q_BK317,Q_GW317,Q_GE317,Q_NB306_317,Q_NB317_306,Q_BK316_e9,Q_BK317_e10,Q_X1_,Q_X3_,Q_X4_,Q_X5_,Q_X6_,Q_X7_,Q_X8_⟩
  clear BK306 HB HO305
  have hb1_:=hall 1 (by kernel_rfl)
  have hb2_:=hall 2 (by kernel_rfl)
  have hb3_:=hall 3 (by kernel_rfl)
  have hb4_:=hall 4 (by kernel_rfl)
  have hb5_:=hall 5 (by kernel_rfl)
  have hb6_:=hall 6 (by kernel_rfl)
  have hb7_:=hall 7 (by kernel_rfl)
  have hb8_:=hall 8 (by kernel_rfl)
  have hb9_:=hall 9 (by kernel_rfl)
  have hb10_:=hall 10 (by kernel_rfl)
  subst ha
  obtain rfl:=Q_X1_ hb1_
  obtain rfl:=Q_X3_ hb3_
  obtain rfl:=Q_X4_ hb4_
  obtain rfl:=Q_X5_ hb5_
  obtain rfl:=Q_X6_ hb6_
  obtain rfl:=Q_X7_ hb7_
  obtain rfl:=Q_X8_ hb8_
  simp only [putSel,hb1_,hb2_,hb3_,hb4_,hb5_,hb6_,hb7_,hb8_,hb9_,hb10_,if_true,Act.put,sA,sZ,sS]
  have HO305:=am Q_HO305
  clear Q_HO305
  have BK306:=am Q_BK306
  clear Q_BK306
  have HB:=am Q_HB
  clear Q_HB
  have NB317_316:=am (Q_NB317_316 hb7_ hb8_)
  clear Q_NB317_316
  have NB316_317:=am (Q_NB316_317 hb7_ hb8_)
  clear Q_NB316_317
  have HO309:=am (Q_HO309 hb1_)
  clear Q_HO309
  have AP305_309:=am (Q_AP305_309 hb1_)
  clear Q_AP305_309
  have HO312:=am (Q_HO312 hb3_)
  clear Q_HO312
  have HO315:=am (Q_HO315 hb3_)
  clear Q_HO315
  have AP305_312:=am (Q_AP305_312 hb3_)
  clear Q_AP305_312
  have AP305_315:=am (Q_AP305_315 hb3_)
  clear Q_AP305_315
  have AP309_312:=am (Q_AP309_312 hb3_)
  clear Q_AP309_312
  have AP309_315:=am (Q_AP309_315 hb3_)
  clear Q_AP309_315
  have AP312_309:=am (Q_AP312_309 hb3_)
  clear Q_AP312_309
  have AP312_315:=am (Q_AP312_315 hb3_)
  clear Q_AP312_315
  have AP315_309:=am (Q_AP315_309 hb3_)
  clear Q_AP315_309
  have AP315_312:=am (Q_AP315_312 hb3_)
  clear Q_AP315_312
  clear Q_BK316
  have GW316:=am (Q_GW316 hb7_)
  clear Q_GW316
  have GE316:=am (Q_GE316 hb7_)
  clear Q_GE316
  have NB306_316:=am (Q_NB306_316 hb7_)
  clear Q_NB306_316
  have NB316_306:=am (Q_NB316_306 hb7_)
  clear Q_NB316_306
  clear Q_BK317
  have GW317:=am (Q_GW317 hb8_)
  clear Q_GW317
  have GE317:=am (Q_GE317 hb8_)
  clear Q_GE317
  have NB306_317:=am (Q_NB306_317 hb8_)
  clear Q_NB306_317
  have NB317_306:=am (Q_NB317_306 hb8_)
  clear Q_NB317_306
  have BK316:=am (Q_BK316_e9 hb9_)
  clear Q_BK316_e9
  have BK317:=am (Q_BK317_e10 hb10_)
  clear Q_BK317_e10
  clear hall hb1_ hb2_ hb3_ hb4_ hb5_ hb6_ hb7_ hb8_ hb9_ hb10_
  replace HO305:=am (show Kd.R (Kd.int .u64) 59 w28 w.heap.size (fun k_=>some k_≠(v308 : Value).ownBlock∧some k_≠(v311 : Value).ownBlock∧some k_≠(v314 : Value).ownBlock) (.slice Ao15 t303.length co15) t303 from R_re HO305.out (fun k_ h_=>by have h0_:=HO305.out.1 k_ h_;(repeat' apply And.intro) <;> first | exact zD h0_ | exact AP305_309.out k_ h_ | exact AP305_312.out k_ h_ | exact AP305_315.out k_ h_))
  replace HO309:=am (show Kd.R (Kd.int .u64) 59 w28 w.heap.size (fun k_=>some k_≠(.slice Ao15 t303.length co15 : Value).ownBlock∧some k_≠(v311 : Value).ownBlock∧some k_≠(v314 : Value).ownBlock) v308 t307 from R_re HO309.out (fun k_ h_=>by have h0_:=HO309.out.1 k_ h_;(repeat' apply And.intro) <;> first | exact zD h0_ | exact AP309_312.out k_ h_ | exact AP309_315.out k_ h_))
  replace HO312:=am (show Kd.R (Kd.int .u64) 59 w28 w.heap.size (fun k_=>some k_≠(.slice Ao15 t303.length co15 : Value).ownBlock∧some k_≠(v308 : Value).ownBlock∧some k_≠(v314 : Value).ownBlock) v311 t310 from R_re HO312.out (fun k_ h_=>by have h0_:=HO312.out.1 k_ h_;(repeat' apply And.intro) <;> first | exact zD h0_ | exact AP312_309.out k_ h_ | exact AP312_315.out k_ h_))
  replace HO315:=am (show Kd.R (Kd.int .u64) 59 w28 w.heap.size (fun k_=>some k_≠(.slice Ao15 t303.length co15 : Value).ownBlock∧some k_≠(v308 : Value).ownBlock∧some k_≠(v311 : Value).ownBlock) v314 t313 from R_re HO315.out (fun k_ h_=>by have h0_:=HO315.out.1 k_ h_;(repeat' apply And.intro) <;> first | exact zD h0_ | exact AP315_309.out k_ h_ | exact AP315_312.out k_ h_))
  try go_wp2
  replace HO305:=am (Kd.R_drew HO305.out)
  replace HO309:=am (Kd.R_drew HO309.out)
  replace HO312:=am (Kd.R_drew HO312.out)
  replace HO315:=am (Kd.R_drew HO315.out)
  replace BK306:=am (blk_drew BK306.out)
  replace BK316:=am (blk_drew BK316.out)
  replace BK317:=am (blk_drew BK317.out)
  replace HB:=am (below_drew1 HB.out)
  obtain⟨Ao30,co30,eo30⟩:=Kd.R_slice HO312.out
  (first | subst eo30 |(injection eo30 with f1_ f2_ f3_;have f4_:=f1_.symm;have f5_:=f3_.symm;clear f1_ f2_ f3_;subst f4_;subst f5_))
  refine start_ (n:=7) (S:=fun w'=>w'.cell? ⟨gb316,0,none⟩ = some (.slice Ao30 t310.length co30)∧w'.cell? ⟨gb317,0,none⟩ = some (v314)) (ds:=[]) #[ff,ff,ff,ff,ff,ff,ff] (by kernel_rfl) rfl rfl ⟨(blk_cell BK316.out 0).trans rfl,(blk_cell BK317.out 0).trans rfl⟩ (fun hHeld=>?_)
  generalize w28.drew = w29 at HO305 HO309 HO312 HO315 BK306 BK316 BK317 HB hHeld ⊢
  refine take_ (i:=0) (N:=some 23) (v:=?_) (a':=?_) #[tt,ff,ff,ff,ff,ff,ff] rfl rfl (by kernel_rfl) (fun _ _ _ h=>h) (Or.inl ⟨by rfl,?_⟩) hHeld ?_ ?_
  rotate_left
  ·rintro w' ⟨s0,s1⟩
   go_simp
   with_reducible rfl
  rotate_left
  ·simp only [Act.put,sA,sZ,sS,i64_w,i32_w]
   rfl
  refine take_ (i:=2) (N:=some 25) (v:=?_) (a':=?_) #[tt,ff,tt,ff,ff,ff,ff] rfl rfl (by kernel_rfl) (fun _ _ _ h=>h) (Or.inl ⟨by rfl,?_⟩) hHeld ?_ ?_
  rotate_left
  ·rintro w' ⟨s0,s1⟩
   go_simp
   with_reducible rfl
  rotate_left
  ·simp only [Act.put,sA,sZ,sS,i64_w,i32_w]
   rfl
  refine one_ (i:=1) (N:=some 24) #[tt,tt,tt,ff,ff,ff,ff] rfl rfl (by kernel_rfl) (by decide) (fun K hK=>?_)
  refine goes_ Tryz.func58 (by kernel_rfl) rfl #[.agg #[.slice Ao30 t310.length co30]] (by rfl) rfl rfl zl ?_
  with_reducible refine(nat_number_row.calls k _ _ t310 t318 _ ?side1 ?side2 A11.out).mono ?_
  (case side1=>exact zC (Kd.R_reads' HO312.out).2.2)
  (case side2=>exact(Kd.R_reads' HO312.out).2.1)
  rintro e w31 ⟨v319,rfl,ho0,hb⟩
  refine⟨_,rfl,?_⟩
  replace HO305:=rb HO305 hb
  replace HO309:=rb HO309 hb
  replace HO312:=rb HO312 hb
  replace HO315:=rb HO315 hb
  have HO320:=am (Kd.R_lower ho0 (below_size zb))
  replace BK306:=kb BK306 hb
  replace BK316:=kb BK316 hb
  replace BK317:=kb BK317 hb
  replace HB:=am (below_step zb hb)
  (try clear hb)
  (try clear hb2)
  (try clear hk)
  (try clear hi)
  (try clear ho0)
  obtain⟨Ao32,co32,eo32⟩:=Kd.R_slice HO315.out
  (first | subst eo32 |(injection eo32 with f1_ f2_ f3_;have f4_:=f1_.symm;have f5_:=f3_.symm;clear f1_ f2_ f3_;subst f4_;subst f5_))
  refine hK.out _ _ ⟨(blk_cell BK316.out 0).trans rfl,(blk_cell BK317.out 0).trans rfl⟩ (fun hHeld=>?_)
  clear hK K
  refine norm_ (a':=?_) ?_ ?_
  rotate_left
  ·show Act.put _ (some 24) _ = _
   simp only [Act.put,sA,sZ,sS,i64_w,i32_w]
   rfl
  refine one_ (i:=3) (N:=some 26) #[tt,tt,tt,tt,ff,ff,ff] rfl rfl (by kernel_rfl) (by decide) (fun K hK=>?_)
  refine goes_ Tryz.func58 (by kernel_rfl) rfl #[.agg #[.slice Ao32 t313.length co32]] (by rfl) rfl rfl zl ?_
  with_reducible refine(nat_number_row.calls k _ _ t313 t321 _ ?side1 ?side2 A12.out).mono ?_
  (case side1=>exact zC (Kd.R_reads' HO315.out).2.2)
  (case side2=>exact(Kd.R_reads' HO315.out).2.1)
  rintro e w33 ⟨v322,rfl,ho0,hb⟩
  refine⟨_,rfl,?_⟩
  replace HO305:=rb HO305 hb
  replace HO309:=rb HO309 hb
  replace HO312:=rb HO312 hb
  replace HO315:=rb HO315 hb
  have HO323:=am (Kd.R_lower (Kd.R_new' ho0 (Kd.R_lt (zR HO320.out))) (below_size zb))
  replace HO320:=re HO320 (Kd.R_base ho0) hb
  replace BK306:=kb BK306 hb
  replace BK316:=kb BK316 hb
  replace BK317:=kb BK317 hb
  replace HB:=am (below_step zb hb)
  (try clear hb)
  (try clear hb2)
  (try clear hk)
  (try clear hi)
  (try clear ho0)
  refine hK.out _ _ ⟨(blk_cell BK316.out 0).trans rfl,(blk_cell BK317.out 0).trans rfl⟩ (fun hHeld=>?_)
  clear hK K
  refine norm_ (a':=?_) ?_ ?_
  rotate_left
  ·show Act.put _ (some 26) _ = _
   simp only [Act.put,sA,sZ,sS,i64_w,i32_w]
   rfl
  refine pu (i:=4) (N:=some 4) #[tt,tt,tt,tt,tt,ff,ff] (by kernel_rfl) ?_
  refine pu (i:=5) (N:=some 5) #[tt,tt,tt,tt,tt,tt,ff] (by kernel_rfl) ?_
  refine pu (i:=6) (N:=some 6) #[tt,tt,tt,tt,tt,tt,tt] (by kernel_rfl) ?_
  refine done_ (by kernel_rfl) ?_
  try go_wp2
  go_ret3
  exact⟨_,_,zf,by refine zR ?_;exact Kd.R_mono HO320.out (fun _ hk=>hk.2),by refine zR ?_;exact Kd.R_mono HO323.out (fun _ hk=>hk.2),zb⟩

end Go.Proofs.YtcbohpmdeboeoaaGreatDoorRR.X

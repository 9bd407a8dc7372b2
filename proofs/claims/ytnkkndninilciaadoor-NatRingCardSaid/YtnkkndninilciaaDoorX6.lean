-- Printed by xprint.py, this session's own program (wip/tool), out of the translation. Lean checks it.
import Derived.Test.YtnkkndninilciaaDoorZ
import Derived.Test.YtnkkndninilciaaDoorX0
import Derived.Test.YtnkkndninilciaaDoorX1
import Derived.Test.YtnkkndninilciaaDoorX5
namespace Go.Proofs.YtnkkndninilciaaDoor.X
open Go.Proofs.YtnkkndninilciaaDoor.Z
open Go.RowKit Go.Proofs.YtnkkndninilciaaDoorW.PrintWords Go.Proofs.YtnkkndninilciaaDoorW.PrintLast Go.Proofs.YtnkkndninilciaaDoorW.PrintMore
open List renaming setIfInBounds_toArray → sA, set_cons_zero → sZ, set_cons_succ → sS
open Aside0 renaming mk → am
open Bool renaming true → tt, false → ff
set_option maxHeartbeats 8000000
set_option maxRecDepth 100000
attribute [local go_sem] max2_int min2_int max_two min_two max_three min_three max_four min_four   -- for this text's walks alone
set_option linter.unusedVariables false
set_option linter.unusedSimpArgs false

/-! ### nat_DivMod: function 18 -/
def nat_DivMod.f (k : Nat) (l0 : List Int) (l1 : List Int) : Option (List Int×List Int×Bool):=(nat_of.f k l1).bind fun t249=>(if (t249.length : Int) = 0 then(some (([] : List Int),([] : List Int),false)) else((nat_of.f k l0).bind fun t253=>((nat_number_parted.f k t253 t249).bind fun bt256=>((nat_number_row.f k bt256.1).bind fun t264=>((nat_number_row.f k bt256.2).bind fun t267=>(some (t264,t267,true)))))))
def nat_DivMod.T4 : Bool×List (List Nat×List Nat):=(true,[([],[]),([0],[0]),([],[]),([1,2,1],[1,2]),([3],[3]),([4],[4]),([4],[4]),([],[]),([],[]),([7,5,3,0,1,2,3,4,5,7,8],[5,7]),([8,6,9,0,1,2,3,4,5,6,7,8,9],[6,8])])
def nat_DivMod.B4 : List Nat:=[0,1,0,7,15,31,31,0,0,447,1023]
theorem nat_DivMod.tab4 : rtab .any (opsOf Tryd.f18 4) = nat_DivMod.T4:=by kernel_rfl
theorem nat_DivMod.bits4 : waitsOk nat_DivMod.T4.2 nat_DivMod.B4 = true:=by kernel_rfl
theorem nat_DivMod.calls (k : Nat) (A0 : Option Addr) (c0 : Nat) (l0 : List Int) (A1 : Option Addr) (c1 : Nat) (l1 : List Int) (r1 : List Int) (r2 : List Int) (r3 : Bool) (w : World) (hr0 : Kd.C (Kd.int .u32) w A0 l0.length l0) (hc0 : l0.length≤c0) (hr1 : Kd.C (Kd.int .u32) w A1 l1.length l1) (hc1 : l1.length≤c1) (h : nat_DivMod.f k l0 l1 = some (r1,r2,r3)) :
  Calls Tryd.prog 18 #[.slice A0 l0.length c0,.slice A1 l1.length c1] w fun e w'=>∃ v0_ v1_ : Value,e = .returned (.tuple #[v0_,v1_,.bool r3])∧Kd.V (Kd.int .u32) 32 w' w.heap.size (fun k_=>(w.heap.size≤k_)) v0_ r1∧Kd.V (Kd.int .u32) 32 w' w.heap.size (fun k_=>(w.heap.size≤k_)) v1_ r2∧Below w.heap.size w w':=by
 have hu47:=Tryd.underlying47
 have HR0:=am hr0
 have HC0:=am hc0
 clear hr0 hc0
 have HR1:=am hr1
 have HC1:=am hc1
 clear hr1 hc1
 have HB:=am (Below.refl w.heap.size w)
 have H : ((nat_of.f k l1).bind fun t249=>(if (t249.length : Int) = 0 then(some (([] : List Int),([] : List Int),false)) else((nat_of.f k l0).bind fun t253=>((nat_number_parted.f k t253 t249).bind fun bt256=>((nat_number_row.f k bt256.1).bind fun t264=>((nat_number_row.f k bt256.2).bind fun t267=>(some (t264,t267,true)))))))) = some (r1,r2,r3):=h
 clear h
 replace H:=Option.bind_eq_some_iff.mp H
 obtain⟨t249,A30,H⟩:=H
 try dsimp only at H
 have A3:=am A30
 clear A30
 by_cases c4 : (t249.length : Int) = 0
 ·rw [if_pos c4] at H
  have c4b0 : ((t249.length : Int) == 0) = true:=beq_iff_eq.mpr c4
  have c4b1 : ((t249.length : Int) != 0) = false:=bne_eq_false_iff_eq.mpr c4
  clear c4
  simp only [Option.some.injEq,Prod.mk.injEq] at H
  obtain⟨rfl,rfl,rfl⟩:=H
  go_enter Tryd.func18,Tryd.ntmps18
  go_wp2_with (first |((with_reducible refine gate_callee (f:=31) rfl ?_);refine goesL_ (some 11) rfl rfl Tryd.func31 (by kernel_rfl) rfl #[.slice A1 l1.length c1] rfl zl ?_;(with_reducible refine(nat_of.calls k _ _ l1 t249 _ ?side1 ?side2 A3.out).mono ?_);(case side1=>exact zC HR1.out);(case side2=>exact HC1.out);rintro e w5 ⟨v250,rfl,ho0,hb⟩;refine⟨_,rfl,?_⟩;have HO251:=am (Kd.R_lower (Kd.R_newM (M:=fun k_=>(w.heap.size≤k_)) ho0 (below_size zb) (fun k_ h_=>h_)) (below_size zb));replace HB:=am (below_step zb hb);(try clear hb);(try clear ho0)) |((with_reducible refine gate_dst (N:=7) rfl ?_);refine box_event ?hg (N:=7) ?hd (cs:=#[.slice none 0 0]) (t:=47) ?hr ?_;(case hd=>rfl);(case hg=>rfl);(case hr=>exact zh);intro gb252 hg w6 hbox hb;replace HO251:=rb HO251 hb;have BK252:=am (hbox);have GW252:=gw w hg;have GE252:=gw w hg;replace HB:=am (below_step zb hb);clear hb hbox hg;obtain⟨Ao7,co7,eo7⟩:=Kd.R_slice HO251.out;subst eo7;have hcz8_0 : w6.cell? ⟨gb252,0,none⟩ = some (.slice none 0 0):=(blk_cell BK252.out 0).trans rfl;have hfz8_0:=blk_frozen BK252.out 0))
  go_ret3
  exact⟨_,_,zf,Kd.V_nil _ _ _ _ _,Kd.V_nil _ _ _ _ _,zb⟩
 ·rw [if_neg c4] at H
  have c4b0 : ((t249.length : Int) == 0) = false:=beq_eq_false_iff_ne.mpr c4
  have c4b1 : ((t249.length : Int) != 0) = true:=bne_iff_ne.mpr c4
  have c4b2 : ¬ (t249 = []):=fun h_=>c4 (by rw [h_];rfl)
  replace H:=Option.bind_eq_some_iff.mp H
  obtain⟨t253,A90,H⟩:=H
  try dsimp only at H
  have A9:=am A90
  clear A90
  replace H:=Option.bind_eq_some_iff.mp H
  obtain⟨⟨t256,t259⟩,A100,H⟩:=H
  try dsimp only at H
  have A10:=am A100
  clear A100
  replace H:=Option.bind_eq_some_iff.mp H
  obtain⟨t264,A110,H⟩:=H
  try dsimp only at H
  have A11:=am A110
  clear A110
  replace H:=Option.bind_eq_some_iff.mp H
  obtain⟨t267,A120,H⟩:=H
  try dsimp only at H
  have A12:=am A120
  clear A120
  simp only [Option.some.injEq,Prod.mk.injEq] at H
  obtain⟨rfl,rfl,rfl⟩:=H
  go_enter Tryd.func18,Tryd.ntmps18
  try go_wp2_with (first |((with_reducible refine gate_callee (f:=31) rfl ?_);refine goesL_ (some 11) rfl rfl Tryd.func31 (by kernel_rfl) rfl #[.slice A1 l1.length c1] rfl zl ?_;(with_reducible refine(nat_of.calls k _ _ l1 t249 _ ?side1 ?side2 A3.out).mono ?_);(case side1=>exact zC HR1.out);(case side2=>exact HC1.out);rintro e w13 ⟨v250,rfl,ho0,hb⟩;refine⟨_,rfl,?_⟩;have HO251:=am (Kd.R_lower (Kd.R_newM (M:=fun k_=>(w.heap.size≤k_)) ho0 (below_size zb) (fun k_ h_=>h_)) (below_size zb));replace HB:=am (below_step zb hb);(try clear hb);(try clear ho0)) |((with_reducible refine gate_dst (N:=7) rfl ?_);refine box_event ?hg (N:=7) ?hd (cs:=#[.slice none 0 0]) (t:=47) ?hr ?_;(case hd=>rfl);(case hg=>rfl);(case hr=>exact zh);intro gb252 hg w14 hbox hb;replace HO251:=rb HO251 hb;have BK252:=am (hbox);have GW252:=gw w hg;have GE252:=gw w hg;replace HB:=am (below_step zb hb);clear hb hbox hg;obtain⟨Ao15,co15,eo15⟩:=Kd.R_slice HO251.out;subst eo15;have hcz16_0 : w14.cell? ⟨gb252,0,none⟩ = some (.slice none 0 0):=(blk_cell BK252.out 0).trans rfl;have hfz16_0:=blk_frozen BK252.out 0))
  have n0_ : Aside0 (Kd.R (Kd.int .u64) 55 (w14.setCell ⟨gb252,0,none⟩ (.slice Ao15 t249.length co15)) w.heap.size (fun k_=>(w.heap.size≤k_)) (.slice Ao15 t249.length co15) t249):=⟨by refine zR ?_;exact Kd.R_mono (Kd.R_far (p:=⟨gb252,0,none⟩) (Kd.R_types HO251.out BK252.out (by decide)) (fun _ hk=>hk.2) (.slice Ao15 t249.length co15)) (fun _ hk=>hk.1.1)⟩
  have n1_ : Aside0 ((w14.setCell ⟨gb252,0,none⟩ (.slice Ao15 t249.length co15)).heap[gb252]? = some (.cells #[.slice Ao15 t249.length co15] 47 (0,0))):=⟨by refine zk ?_;refine blk_put (cs:=#[.slice none 0 0]) ?_ 0 _ rfl;refine zk ?_;exact BK252.out⟩
  have n2_ : Aside0 (Below w.heap.size w (w14.setCell ⟨gb252,0,none⟩ (.slice Ao15 t249.length co15))):=⟨zb⟩
  (try clear HO251)
  (try clear BK252)
  (try clear HB)
  generalize (w14.setCell ⟨gb252,0,none⟩ (.slice Ao15 t249.length co15)) = w17 at n0_ n1_ n2_ ⊢
  have HO251:=n0_
  have BK252:=n1_
  have HB:=n2_
  clear n0_ n1_ n2_
  replace HO251:=am (Kd.R_drew HO251.out)
  replace BK252:=am (blk_drew BK252.out)
  replace HB:=am (below_drew1 HB.out)
  refine start_ (n:=11) (S:=fun w'=>w'.cell? ⟨gb252,0,none⟩ = some (.slice Ao15 t249.length co15)) (ds:=[]) #[ff,ff,ff,ff,ff,ff,ff,ff,ff,ff,ff] (by kernel_rfl) rfl rfl ((blk_cell BK252.out 0).trans rfl) (fun hHeld=>?_);refine with_tabW nat_DivMod.tab4 nat_DivMod.bits4 (fun HT_ HW_=>?_)
  generalize w17.drew = w18 at HO251 BK252 HB hHeld ⊢
  refine pu (i:=0) (N:=some 17) #[tt,ff,ff,ff,ff,ff,ff,ff,ff,ff,ff] (any_of HT_.out (by kernel_rfl)) ?_
  refine take_ (i:=2) (N:=some 19) (v:=?_) (a':=?_) #[tt,ff,tt,ff,ff,ff,ff,ff,ff,ff,ff] rfl rfl (take_ofW HT_.out HW_.out (by kernel_rfl)) (fun _ _ _ h=>h) (Or.inl ⟨by rfl,?_⟩) hHeld ?_ ?_
  rotate_left
  ·intro w' s0
   go_simp
   with_reducible rfl
  rotate_left
  ·simp only [Act.put,sA,sZ,sS,i64_w,i32_w]
   rfl
  refine join_ (σ:=Value×Value×Value×Nat×Nat) 2 #[tt,tt,tt,tt,tt,tt,tt,tt,tt,ff,ff] (fun s_=>[(18,.agg #[s_.1]),(20,.tuple #[.agg #[s_.2.1],.agg #[s_.2.2.1]]),(8,.pointer (some ⟨s_.2.2.2.1,0,none⟩)),(9,.pointer (some ⟨s_.2.2.2.2,0,none⟩)),(16,.tuple #[.agg #[s_.2.1],.agg #[s_.2.2.1]]),(21,.agg #[s_.2.1]),(22,.agg #[s_.2.2.1])]) (fun s_ w'=>(w'.cell? ⟨gb252,0,none⟩ = some (.slice Ao15 t249.length co15))∧(Kd.R (Kd.int .u64) 55 w' w.heap.size (fun k_=>(w.heap.size≤k_)∧some k_≠(s_.1 : Value).ownBlock∧some k_≠(s_.2.1 : Value).ownBlock∧some k_≠(s_.2.2.1 : Value).ownBlock) (.slice Ao15 t249.length co15) t249)∧(Kd.R (Kd.int .u64) 55 w' w.heap.size (fun k_=>(w.heap.size≤k_)∧some k_≠(.slice Ao15 t249.length co15 : Value).ownBlock∧some k_≠(s_.2.1 : Value).ownBlock∧some k_≠(s_.2.2.1 : Value).ownBlock) s_.1 t253)∧(Kd.R (Kd.int .u64) 55 w' w.heap.size (fun k_=>(w.heap.size≤k_)∧some k_≠(.slice Ao15 t249.length co15 : Value).ownBlock∧some k_≠(s_.1 : Value).ownBlock∧some k_≠(s_.2.2.1 : Value).ownBlock) s_.2.1 t256)∧(Kd.R (Kd.int .u64) 55 w' w.heap.size (fun k_=>(w.heap.size≤k_)∧some k_≠(.slice Ao15 t249.length co15 : Value).ownBlock∧some k_≠(s_.1 : Value).ownBlock∧some k_≠(s_.2.1 : Value).ownBlock) s_.2.2.1 t259)∧(w'.heap[gb252]? = some (.cells #[.slice Ao15 t249.length co15] 47 (0,0)))∧(w'.heap[s_.2.2.2.1]? = some (.cells #[.slice none 0 0] 47 (0,0)))∧(w'.heap[s_.2.2.2.2]? = some (.cells #[.slice none 0 0] 47 (0,0)))∧(w.heap.size≤s_.2.2.2.1)∧(w.heap.size≤s_.2.2.2.1)∧(gb252≠s_.2.2.2.1)∧(s_.2.2.2.1≠gb252)∧(s_.2.2.2.2≠s_.2.2.2.1)∧(s_.2.2.2.1≠s_.2.2.2.2)∧(w.heap.size≤s_.2.2.2.2)∧(w.heap.size≤s_.2.2.2.2)∧(gb252≠s_.2.2.2.2)∧(s_.2.2.2.2≠gb252)∧(Below w.heap.size w w')) ?_ ?_
  rotate_left
  ·intro hJ1_3_7_8
   refine join_ (σ:=Value×Value×Value×Nat) 3 #[tt,tt,tt,tt,tt,tt,tt,tt,ff,ff,ff] (fun s_=>[(18,.agg #[s_.1]),(20,.tuple #[.agg #[s_.2.1],.agg #[s_.2.2.1]]),(8,.pointer (some ⟨s_.2.2.2,0,none⟩)),(16,.tuple #[.agg #[s_.2.1],.agg #[s_.2.2.1]]),(21,.agg #[s_.2.1]),(22,.agg #[s_.2.2.1])]) (fun s_ w'=>(w'.cell? ⟨gb252,0,none⟩ = some (.slice Ao15 t249.length co15))∧(Kd.R (Kd.int .u64) 55 w' w.heap.size (fun k_=>(w.heap.size≤k_)∧some k_≠(s_.1 : Value).ownBlock∧some k_≠(s_.2.1 : Value).ownBlock∧some k_≠(s_.2.2.1 : Value).ownBlock) (.slice Ao15 t249.length co15) t249)∧(Kd.R (Kd.int .u64) 55 w' w.heap.size (fun k_=>(w.heap.size≤k_)∧some k_≠(.slice Ao15 t249.length co15 : Value).ownBlock∧some k_≠(s_.2.1 : Value).ownBlock∧some k_≠(s_.2.2.1 : Value).ownBlock) s_.1 t253)∧(Kd.R (Kd.int .u64) 55 w' w.heap.size (fun k_=>(w.heap.size≤k_)∧some k_≠(.slice Ao15 t249.length co15 : Value).ownBlock∧some k_≠(s_.1 : Value).ownBlock∧some k_≠(s_.2.2.1 : Value).ownBlock) s_.2.1 t256)∧(Kd.R (Kd.int .u64) 55 w' w.heap.size (fun k_=>(w.heap.size≤k_)∧some k_≠(.slice Ao15 t249.length co15 : Value).ownBlock∧some k_≠(s_.1 : Value).ownBlock∧some k_≠(s_.2.1 : Value).ownBlock) s_.2.2.1 t259)∧(w'.heap[gb252]? = some (.cells #[.slice Ao15 t249.length co15] 47 (0,0)))∧(w'.heap[s_.2.2.2]? = some (.cells #[.slice none 0 0] 47 (0,0)))∧(w.heap.size≤s_.2.2.2)∧(w.heap.size≤s_.2.2.2)∧(gb252≠s_.2.2.2)∧(s_.2.2.2≠gb252)∧(Below w.heap.size w w')) ?_ ?_
   rotate_left
   ·intro hJ1_3_7
    refine join_ (σ:=Value×Value×Value×Nat) 3 #[tt,tt,tt,tt,tt,tt,tt,ff,tt,ff,ff] (fun s_=>[(18,.agg #[s_.1]),(20,.tuple #[.agg #[s_.2.1],.agg #[s_.2.2.1]]),(9,.pointer (some ⟨s_.2.2.2,0,none⟩)),(16,.tuple #[.agg #[s_.2.1],.agg #[s_.2.2.1]]),(21,.agg #[s_.2.1]),(22,.agg #[s_.2.2.1])]) (fun s_ w'=>(w'.cell? ⟨gb252,0,none⟩ = some (.slice Ao15 t249.length co15))∧(Kd.R (Kd.int .u64) 55 w' w.heap.size (fun k_=>(w.heap.size≤k_)∧some k_≠(s_.1 : Value).ownBlock∧some k_≠(s_.2.1 : Value).ownBlock∧some k_≠(s_.2.2.1 : Value).ownBlock) (.slice Ao15 t249.length co15) t249)∧(Kd.R (Kd.int .u64) 55 w' w.heap.size (fun k_=>(w.heap.size≤k_)∧some k_≠(.slice Ao15 t249.length co15 : Value).ownBlock∧some k_≠(s_.2.1 : Value).ownBlock∧some k_≠(s_.2.2.1 : Value).ownBlock) s_.1 t253)∧(Kd.R (Kd.int .u64) 55 w' w.heap.size (fun k_=>(w.heap.size≤k_)∧some k_≠(.slice Ao15 t249.length co15 : Value).ownBlock∧some k_≠(s_.1 : Value).ownBlock∧some k_≠(s_.2.2.1 : Value).ownBlock) s_.2.1 t256)∧(Kd.R (Kd.int .u64) 55 w' w.heap.size (fun k_=>(w.heap.size≤k_)∧some k_≠(.slice Ao15 t249.length co15 : Value).ownBlock∧some k_≠(s_.1 : Value).ownBlock∧some k_≠(s_.2.1 : Value).ownBlock) s_.2.2.1 t259)∧(w'.heap[gb252]? = some (.cells #[.slice Ao15 t249.length co15] 47 (0,0)))∧(w'.heap[s_.2.2.2]? = some (.cells #[.slice none 0 0] 47 (0,0)))∧(w.heap.size≤s_.2.2.2)∧(w.heap.size≤s_.2.2.2)∧(gb252≠s_.2.2.2)∧(s_.2.2.2≠gb252)∧(Below w.heap.size w w')) ?_ ?_
    rotate_left
    ·intro hJ1_3_8
     refine join_ (σ:=Value×Nat×Nat) 6 #[tt,tt,tt,ff,ff,ff,ff,tt,tt,ff,ff] (fun s_=>[(18,.agg #[s_.1]),(8,.pointer (some ⟨s_.2.1,0,none⟩)),(9,.pointer (some ⟨s_.2.2,0,none⟩))]) (fun s_ w'=>(w'.cell? ⟨gb252,0,none⟩ = some (.slice Ao15 t249.length co15))∧(Kd.R (Kd.int .u64) 55 w' w.heap.size (fun k_=>(w.heap.size≤k_)∧some k_≠(s_.1 : Value).ownBlock) (.slice Ao15 t249.length co15) t249)∧(Kd.R (Kd.int .u64) 55 w' w.heap.size (fun k_=>(w.heap.size≤k_)∧some k_≠(.slice Ao15 t249.length co15 : Value).ownBlock) s_.1 t253)∧(w'.heap[gb252]? = some (.cells #[.slice Ao15 t249.length co15] 47 (0,0)))∧(w'.heap[s_.2.1]? = some (.cells #[.slice none 0 0] 47 (0,0)))∧(w'.heap[s_.2.2]? = some (.cells #[.slice none 0 0] 47 (0,0)))∧(w.heap.size≤s_.2.1)∧(w.heap.size≤s_.2.1)∧(gb252≠s_.2.1)∧(s_.2.1≠gb252)∧(s_.2.2≠s_.2.1)∧(s_.2.1≠s_.2.2)∧(w.heap.size≤s_.2.2)∧(w.heap.size≤s_.2.2)∧(gb252≠s_.2.2)∧(s_.2.2≠gb252)∧(Below w.heap.size w w')) ?_ ?_
     rotate_left
     ·intro hJ1_7_8
      refine join_ (σ:=Value×Value×Value) 4 #[tt,tt,tt,tt,tt,tt,tt,ff,ff,ff,ff] (fun s_=>[(18,.agg #[s_.1]),(20,.tuple #[.agg #[s_.2.1],.agg #[s_.2.2]]),(16,.tuple #[.agg #[s_.2.1],.agg #[s_.2.2]]),(21,.agg #[s_.2.1]),(22,.agg #[s_.2.2])]) (fun s_ w'=>(w'.cell? ⟨gb252,0,none⟩ = some (.slice Ao15 t249.length co15))∧(Kd.R (Kd.int .u64) 55 w' w.heap.size (fun k_=>(w.heap.size≤k_)∧some k_≠(s_.1 : Value).ownBlock∧some k_≠(s_.2.1 : Value).ownBlock∧some k_≠(s_.2.2 : Value).ownBlock) (.slice Ao15 t249.length co15) t249)∧(Kd.R (Kd.int .u64) 55 w' w.heap.size (fun k_=>(w.heap.size≤k_)∧some k_≠(.slice Ao15 t249.length co15 : Value).ownBlock∧some k_≠(s_.2.1 : Value).ownBlock∧some k_≠(s_.2.2 : Value).ownBlock) s_.1 t253)∧(Kd.R (Kd.int .u64) 55 w' w.heap.size (fun k_=>(w.heap.size≤k_)∧some k_≠(.slice Ao15 t249.length co15 : Value).ownBlock∧some k_≠(s_.1 : Value).ownBlock∧some k_≠(s_.2.2 : Value).ownBlock) s_.2.1 t256)∧(Kd.R (Kd.int .u64) 55 w' w.heap.size (fun k_=>(w.heap.size≤k_)∧some k_≠(.slice Ao15 t249.length co15 : Value).ownBlock∧some k_≠(s_.1 : Value).ownBlock∧some k_≠(s_.2.1 : Value).ownBlock) s_.2.2 t259)∧(w'.heap[gb252]? = some (.cells #[.slice Ao15 t249.length co15] 47 (0,0)))∧(Below w.heap.size w w')) ?_ ?_
      rotate_left
      ·intro hJ1_3
       refine join_ (σ:=Value×Nat) 7 #[tt,tt,tt,ff,ff,ff,ff,tt,ff,ff,ff] (fun s_=>[(18,.agg #[s_.1]),(8,.pointer (some ⟨s_.2,0,none⟩))]) (fun s_ w'=>(w'.cell? ⟨gb252,0,none⟩ = some (.slice Ao15 t249.length co15))∧(Kd.R (Kd.int .u64) 55 w' w.heap.size (fun k_=>(w.heap.size≤k_)∧some k_≠(s_.1 : Value).ownBlock) (.slice Ao15 t249.length co15) t249)∧(Kd.R (Kd.int .u64) 55 w' w.heap.size (fun k_=>(w.heap.size≤k_)∧some k_≠(.slice Ao15 t249.length co15 : Value).ownBlock) s_.1 t253)∧(w'.heap[gb252]? = some (.cells #[.slice Ao15 t249.length co15] 47 (0,0)))∧(w'.heap[s_.2]? = some (.cells #[.slice none 0 0] 47 (0,0)))∧(w.heap.size≤s_.2)∧(w.heap.size≤s_.2)∧(gb252≠s_.2)∧(s_.2≠gb252)∧(Below w.heap.size w w')) ?_ ?_
       rotate_left
       ·intro hJ1_7
        refine join_ (σ:=Value×Nat) 7 #[tt,tt,tt,ff,ff,ff,ff,ff,tt,ff,ff] (fun s_=>[(18,.agg #[s_.1]),(9,.pointer (some ⟨s_.2,0,none⟩))]) (fun s_ w'=>(w'.cell? ⟨gb252,0,none⟩ = some (.slice Ao15 t249.length co15))∧(Kd.R (Kd.int .u64) 55 w' w.heap.size (fun k_=>(w.heap.size≤k_)∧some k_≠(s_.1 : Value).ownBlock) (.slice Ao15 t249.length co15) t249)∧(Kd.R (Kd.int .u64) 55 w' w.heap.size (fun k_=>(w.heap.size≤k_)∧some k_≠(.slice Ao15 t249.length co15 : Value).ownBlock) s_.1 t253)∧(w'.heap[gb252]? = some (.cells #[.slice Ao15 t249.length co15] 47 (0,0)))∧(w'.heap[s_.2]? = some (.cells #[.slice none 0 0] 47 (0,0)))∧(w.heap.size≤s_.2)∧(w.heap.size≤s_.2)∧(gb252≠s_.2)∧(s_.2≠gb252)∧(Below w.heap.size w w')) ?_ ?_
        rotate_left
        ·intro hJ1_8
         refine join_ (σ:=Nat×Nat) 7 #[tt,ff,tt,ff,ff,ff,ff,tt,tt,ff,ff] (fun s_=>[(8,.pointer (some ⟨s_.1,0,none⟩)),(9,.pointer (some ⟨s_.2,0,none⟩))]) (fun s_ w'=>(w'.cell? ⟨gb252,0,none⟩ = some (.slice Ao15 t249.length co15))∧(Kd.R (Kd.int .u64) 55 w' w.heap.size (fun k_=>(w.heap.size≤k_)) (.slice Ao15 t249.length co15) t249)∧(w'.heap[gb252]? = some (.cells #[.slice Ao15 t249.length co15] 47 (0,0)))∧(w'.heap[s_.1]? = some (.cells #[.slice none 0 0] 47 (0,0)))∧(w'.heap[s_.2]? = some (.cells #[.slice none 0 0] 47 (0,0)))∧(w.heap.size≤s_.1)∧(w.heap.size≤s_.1)∧(gb252≠s_.1)∧(s_.1≠gb252)∧(s_.2≠s_.1)∧(s_.1≠s_.2)∧(w.heap.size≤s_.2)∧(w.heap.size≤s_.2)∧(gb252≠s_.2)∧(s_.2≠gb252)∧(Below w.heap.size w w')) ?_ ?_
         rotate_left
         ·intro hJ7_8
          refine join_ (σ:=Value) 8 #[tt,tt,tt,ff,ff,ff,ff,ff,ff,ff,ff] (fun s_=>[(18,.agg #[s_])]) (fun s_ w'=>(w'.cell? ⟨gb252,0,none⟩ = some (.slice Ao15 t249.length co15))∧(Kd.R (Kd.int .u64) 55 w' w.heap.size (fun k_=>(w.heap.size≤k_)∧some k_≠(s_ : Value).ownBlock) (.slice Ao15 t249.length co15) t249)∧(Kd.R (Kd.int .u64) 55 w' w.heap.size (fun k_=>(w.heap.size≤k_)∧some k_≠(.slice Ao15 t249.length co15 : Value).ownBlock) s_ t253)∧(w'.heap[gb252]? = some (.cells #[.slice Ao15 t249.length co15] 47 (0,0)))∧(Below w.heap.size w w')) ?_ ?_
          rotate_left
          ·intro hJ1
           refine join_ (σ:=Nat) 8 #[tt,ff,tt,ff,ff,ff,ff,tt,ff,ff,ff] (fun s_=>[(8,.pointer (some ⟨s_,0,none⟩))]) (fun s_ w'=>(w'.cell? ⟨gb252,0,none⟩ = some (.slice Ao15 t249.length co15))∧(Kd.R (Kd.int .u64) 55 w' w.heap.size (fun k_=>(w.heap.size≤k_)) (.slice Ao15 t249.length co15) t249)∧(w'.heap[gb252]? = some (.cells #[.slice Ao15 t249.length co15] 47 (0,0)))∧(w'.heap[s_]? = some (.cells #[.slice none 0 0] 47 (0,0)))∧(w.heap.size≤s_)∧(w.heap.size≤s_)∧(gb252≠s_)∧(s_≠gb252)∧(Below w.heap.size w w')) ?_ ?_
           rotate_left
           ·intro hJ7
            refine join_ (σ:=Nat) 8 #[tt,ff,tt,ff,ff,ff,ff,ff,tt,ff,ff] (fun s_=>[(9,.pointer (some ⟨s_,0,none⟩))]) (fun s_ w'=>(w'.cell? ⟨gb252,0,none⟩ = some (.slice Ao15 t249.length co15))∧(Kd.R (Kd.int .u64) 55 w' w.heap.size (fun k_=>(w.heap.size≤k_)) (.slice Ao15 t249.length co15) t249)∧(w'.heap[gb252]? = some (.cells #[.slice Ao15 t249.length co15] 47 (0,0)))∧(w'.heap[s_]? = some (.cells #[.slice none 0 0] 47 (0,0)))∧(w.heap.size≤s_)∧(w.heap.size≤s_)∧(gb252≠s_)∧(s_≠gb252)∧(Below w.heap.size w w')) ?_ ?_
            rotate_left
            ·intro hJ8
             refine three_ (i:=1) (j:=7) (k:=8) (Ni:=some 18) (Nj:=some 8) (Nk:=some 9) #[tt,tt,tt,ff,ff,ff,ff,ff,ff,ff,ff] #[tt,ff,tt,ff,ff,ff,ff,tt,ff,ff,ff] #[tt,ff,tt,ff,ff,ff,ff,ff,tt,ff,ff] rfl rfl rfl rfl rfl rfl (three_of HT_.out (by kernel_rfl)) (by decide) (by decide) (by decide) (fun K hK=>?_) (fun K hK=>?_) (fun K hK=>?_)
             ·skip
              refine goes_ Tryd.func31 (by kernel_rfl) rfl #[.slice A0 l0.length c0] (by rfl) rfl rfl zl ?_
              with_reducible refine(nat_of.calls k _ _ l0 t253 _ ?side1 ?side2 A9.out).mono ?_
              (case side1=>repeat (first | exact(Kd.C_below HR0.out HB.out) |(with_reducible refine Kd.C_alloc ?_ _) |(with_reducible refine Kd.C_drewN ?_ _) |(with_reducible refine Kd.C_drew ?_)))
              (case side2=>exact HC0.out)
              rintro e w19 ⟨v254,rfl,ho0,hb⟩
              refine⟨_,rfl,?_⟩
              have HO255:=am (Kd.R_lower (Kd.R_new' (Kd.R_newM (M:=fun k_=>(w.heap.size≤k_)) ho0 (below_size zb) (fun k_ h_=>h_)) (Kd.R_lt (zR HO251.out))) (below_size zb))
              replace HO251:=re HO251 (Kd.R_base ho0) hb
              replace BK252:=kb BK252 hb
              replace HB:=am (below_step zb hb)
              (try clear hb)
              (try clear hb2)
              (try clear hk)
              (try clear hi)
              (try clear ho0)
              refine hK.out _ _ ((blk_cell BK252.out 0).trans rfl) (fun hHeld=>?_)
              clear hK K
              refine norm_ (a':=?_) ?_ ?_
              rotate_left
              ·show Act.put _ (some 18) _ = _
               simp only [Act.put,sA,sZ,sS,i64_w,i32_w]
               rfl
              exact norm_ zp (hJ1 (v254) _ ⟨hHeld,(zR HO251.out),(by refine zR ?_;exact Kd.R_mono HO255.out (fun _ hk=>⟨hk.1.1,hk.2⟩)),(zk BK252.out),zb⟩)
             ·skip
              refine box_step ?hg (N:=8) ?hd (cs:=#[.slice none 0 0]) (t:=47) ?hr ?_;(case hd=>rfl);(case hg=>rfl);(case hr=>exact zh)
              intro gb262 hg w19 hbox hb
              replace HO251:=rb HO251 hb
              have BK262:=am (hbox)
              have GW262:=gw w hg
              have GE262:=gw w hg
              replace HB:=am (below_step zb hb)
              have NB252_262:=nl BK252 hg
              have NB262_252:=nr BK252 hg
              replace BK252:=kb BK252 hb
              clear hb hbox hg
              refine hK.out _ _ ((blk_cell BK252.out 0).trans rfl) (fun hHeld=>?_)
              clear hK K
              refine norm_ (a':=?_) ?_ ?_
              rotate_left
              ·show Act.put _ (some 8) _ = _
               simp only [Act.put,sA,sZ,sS,i64_w,i32_w]
               rfl
              exact norm_ zp (hJ7 (gb262) _ ⟨hHeld,(zR HO251.out),(zk BK252.out),(zk BK262.out),GW262.out,GE262.out,NB252_262.out,NB262_252.out,zb⟩)
             ·skip
              refine box_step ?hg (N:=9) ?hd (cs:=#[.slice none 0 0]) (t:=47) ?hr ?_;(case hd=>rfl);(case hg=>rfl);(case hr=>exact zh)
              intro gb263 hg w19 hbox hb
              replace HO251:=rb HO251 hb
              have BK263:=am (hbox)
              have GW263:=gw w hg
              have GE263:=gw w hg
              replace HB:=am (below_step zb hb)
              have NB252_263:=nl BK252 hg
              have NB263_252:=nr BK252 hg
              replace BK252:=kb BK252 hb
              clear hb hbox hg
              refine hK.out _ _ ((blk_cell BK252.out 0).trans rfl) (fun hHeld=>?_)
              clear hK K
              refine norm_ (a':=?_) ?_ ?_
              rotate_left
              ·show Act.put _ (some 9) _ = _
               simp only [Act.put,sA,sZ,sS,i64_w,i32_w]
               rfl
              exact norm_ zp (hJ8 (gb263) _ ⟨hHeld,(zR HO251.out),(zk BK252.out),(zk BK263.out),GW263.out,GE263.out,NB252_263.out,NB263_252.out,zb⟩)
            ·skip
             rintro gb263 w20 ⟨hS_,h0_,h1_,h2_,h3_,h4_,h5_,h6_,h7_⟩
             have n0_ : Aside0 (Kd.R (Kd.int .u64) 55 w20 w.heap.size (fun k_=>(w.heap.size≤k_)) (.slice Ao15 t249.length co15) t249):=⟨h0_⟩
             have n1_ : Aside0 (w20.heap[gb252]? = some (.cells #[.slice Ao15 t249.length co15] 47 (0,0))):=⟨h1_⟩
             have n2_ : Aside0 (w20.heap[gb263]? = some (.cells #[.slice none 0 0] 47 (0,0))):=⟨h2_⟩
             have n3_ : Aside0 (w.heap.size≤gb263):=⟨h3_⟩
             have n4_ : Aside0 (w.heap.size≤gb263):=⟨h4_⟩
             have n5_ : Aside0 (gb252≠gb263):=⟨h5_⟩
             have n6_ : Aside0 (gb263≠gb252):=⟨h6_⟩
             have n7_ : Aside0 (Below w.heap.size w w20):=⟨h7_⟩
             clear HO251
             clear BK252
             clear HB
             clear h0_ h1_ h2_ h3_ h4_ h5_ h6_ h7_
             have HO251:=n0_
             have BK252:=n1_
             have BK263:=n2_
             have GW263:=n3_
             have GE263:=n4_
             have NB252_263:=n5_
             have NB263_252:=n6_
             have HB:=n7_
             clear n0_ n1_ n2_ n3_ n4_ n5_ n6_ n7_
             have hHeld : w20.cell? ⟨gb252,0,none⟩ = some (.slice Ao15 t249.length co15):=hS_
             refine norm_ (a':=?_) ?_ ?_
             rotate_left
             ·simp only [putAll,Act.put,sA,sZ,sS]
              rfl
             refine two_ (i:=1) (j:=7) (Ni:=some 18) (Nj:=some 8) #[tt,tt,tt,ff,ff,ff,ff,ff,tt,ff,ff] #[tt,ff,tt,ff,ff,ff,ff,tt,tt,ff,ff] rfl rfl rfl rfl (two_of HT_.out (by kernel_rfl)) (by decide) (by decide) (fun K hK=>?_) (fun K hK=>?_)
             ·skip
              refine goes_ Tryd.func31 (by kernel_rfl) rfl #[.slice A0 l0.length c0] (by rfl) rfl rfl zl ?_
              with_reducible refine(nat_of.calls k _ _ l0 t253 _ ?side1 ?side2 A9.out).mono ?_
              (case side1=>repeat (first | exact(Kd.C_below HR0.out HB.out) |(with_reducible refine Kd.C_alloc ?_ _) |(with_reducible refine Kd.C_drewN ?_ _) |(with_reducible refine Kd.C_drew ?_)))
              (case side2=>exact HC0.out)
              rintro e w21 ⟨v254,rfl,ho0,hb⟩
              refine⟨_,rfl,?_⟩
              have HO255:=am (Kd.R_lower (Kd.R_new' (Kd.R_newM (M:=fun k_=>(w.heap.size≤k_)) ho0 (below_size zb) (fun k_ h_=>h_)) (Kd.R_lt (zR HO251.out))) (below_size zb))
              replace HO251:=re HO251 (Kd.R_base ho0) hb
              replace BK252:=kb BK252 hb
              replace BK263:=kb BK263 hb
              replace HB:=am (below_step zb hb)
              (try clear hb)
              (try clear hb2)
              (try clear hk)
              (try clear hi)
              (try clear ho0)
              refine hK.out _ _ ((blk_cell BK252.out 0).trans rfl) (fun hHeld=>?_)
              clear hK K
              refine norm_ (a':=?_) ?_ ?_
              rotate_left
              ·show Act.put _ (some 18) _ = _
               simp only [Act.put,sA,sZ,sS,i64_w,i32_w]
               rfl
              exact norm_ zp (hJ1_8 (v254,gb263) _ ⟨hHeld,(zR HO251.out),(by refine zR ?_;exact Kd.R_mono HO255.out (fun _ hk=>⟨hk.1.1,hk.2⟩)),(zk BK252.out),(zk BK263.out),GW263.out,GE263.out,NB252_263.out,NB263_252.out,zb⟩)
             ·skip
              refine box_step ?hg (N:=8) ?hd (cs:=#[.slice none 0 0]) (t:=47) ?hr ?_;(case hd=>rfl);(case hg=>rfl);(case hr=>exact zh)
              intro gb262 hg w21 hbox hb
              replace HO251:=rb HO251 hb
              have BK262:=am (hbox)
              have GW262:=gw w hg
              have GE262:=gw w hg
              replace HB:=am (below_step zb hb)
              have NB252_262:=nl BK252 hg
              have NB262_252:=nr BK252 hg
              replace BK252:=kb BK252 hb
              have NB263_262:=nl BK263 hg
              have NB262_263:=nr BK263 hg
              replace BK263:=kb BK263 hb
              clear hb hbox hg
              refine hK.out _ _ ((blk_cell BK252.out 0).trans rfl) (fun hHeld=>?_)
              clear hK K
              refine norm_ (a':=?_) ?_ ?_
              rotate_left
              ·show Act.put _ (some 8) _ = _
               simp only [Act.put,sA,sZ,sS,i64_w,i32_w]
               rfl
              exact norm_ zp (hJ7_8 (gb262,gb263) _ ⟨hHeld,(zR HO251.out),(zk BK252.out),(zk BK262.out),(zk BK263.out),GW262.out,GE262.out,NB252_262.out,NB262_252.out,NB263_262.out,NB262_263.out,GW263.out,GE263.out,NB252_263.out,NB263_252.out,zb⟩)
           ·skip
            rintro gb262 w20 ⟨hS_,h0_,h1_,h2_,h3_,h4_,h5_,h6_,h7_⟩
            have n0_ : Aside0 (Kd.R (Kd.int .u64) 55 w20 w.heap.size (fun k_=>(w.heap.size≤k_)) (.slice Ao15 t249.length co15) t249):=⟨h0_⟩
            have n1_ : Aside0 (w20.heap[gb252]? = some (.cells #[.slice Ao15 t249.length co15] 47 (0,0))):=⟨h1_⟩
            have n2_ : Aside0 (w20.heap[gb262]? = some (.cells #[.slice none 0 0] 47 (0,0))):=⟨h2_⟩
            have n3_ : Aside0 (w.heap.size≤gb262):=⟨h3_⟩
            have n4_ : Aside0 (w.heap.size≤gb262):=⟨h4_⟩
            have n5_ : Aside0 (gb252≠gb262):=⟨h5_⟩
            have n6_ : Aside0 (gb262≠gb252):=⟨h6_⟩
            have n7_ : Aside0 (Below w.heap.size w w20):=⟨h7_⟩
            clear HO251
            clear BK252
            clear HB
            clear h0_ h1_ h2_ h3_ h4_ h5_ h6_ h7_
            have HO251:=n0_
            have BK252:=n1_
            have BK262:=n2_
            have GW262:=n3_
            have GE262:=n4_
            have NB252_262:=n5_
            have NB262_252:=n6_
            have HB:=n7_
            clear n0_ n1_ n2_ n3_ n4_ n5_ n6_ n7_
            have hHeld : w20.cell? ⟨gb252,0,none⟩ = some (.slice Ao15 t249.length co15):=hS_
            refine norm_ (a':=?_) ?_ ?_
            rotate_left
            ·simp only [putAll,Act.put,sA,sZ,sS]
             rfl
            refine two_ (i:=1) (j:=8) (Ni:=some 18) (Nj:=some 9) #[tt,tt,tt,ff,ff,ff,ff,tt,ff,ff,ff] #[tt,ff,tt,ff,ff,ff,ff,tt,tt,ff,ff] rfl rfl rfl rfl (two_of HT_.out (by kernel_rfl)) (by decide) (by decide) (fun K hK=>?_) (fun K hK=>?_)
            ·skip
             refine goes_ Tryd.func31 (by kernel_rfl) rfl #[.slice A0 l0.length c0] (by rfl) rfl rfl zl ?_
             with_reducible refine(nat_of.calls k _ _ l0 t253 _ ?side1 ?side2 A9.out).mono ?_
             (case side1=>repeat (first | exact(Kd.C_below HR0.out HB.out) |(with_reducible refine Kd.C_alloc ?_ _) |(with_reducible refine Kd.C_drewN ?_ _) |(with_reducible refine Kd.C_drew ?_)))
             (case side2=>exact HC0.out)
             rintro e w21 ⟨v254,rfl,ho0,hb⟩
             refine⟨_,rfl,?_⟩
             have HO255:=am (Kd.R_lower (Kd.R_new' (Kd.R_newM (M:=fun k_=>(w.heap.size≤k_)) ho0 (below_size zb) (fun k_ h_=>h_)) (Kd.R_lt (zR HO251.out))) (below_size zb))
             replace HO251:=re HO251 (Kd.R_base ho0) hb
             replace BK252:=kb BK252 hb
             replace BK262:=kb BK262 hb
             replace HB:=am (below_step zb hb)
             (try clear hb)
             (try clear hb2)
             (try clear hk)
             (try clear hi)
             (try clear ho0)
             refine hK.out _ _ ((blk_cell BK252.out 0).trans rfl) (fun hHeld=>?_)
             clear hK K
             refine norm_ (a':=?_) ?_ ?_
             rotate_left
             ·show Act.put _ (some 18) _ = _
              simp only [Act.put,sA,sZ,sS,i64_w,i32_w]
              rfl
             exact norm_ zp (hJ1_7 (v254,gb262) _ ⟨hHeld,(zR HO251.out),(by refine zR ?_;exact Kd.R_mono HO255.out (fun _ hk=>⟨hk.1.1,hk.2⟩)),(zk BK252.out),(zk BK262.out),GW262.out,GE262.out,NB252_262.out,NB262_252.out,zb⟩)
            ·skip
             refine box_step ?hg (N:=9) ?hd (cs:=#[.slice none 0 0]) (t:=47) ?hr ?_;(case hd=>rfl);(case hg=>rfl);(case hr=>exact zh)
             intro gb263 hg w21 hbox hb
             replace HO251:=rb HO251 hb
             have BK263:=am (hbox)
             have GW263:=gw w hg
             have GE263:=gw w hg
             replace HB:=am (below_step zb hb)
             have NB252_263:=nl BK252 hg
             have NB263_252:=nr BK252 hg
             replace BK252:=kb BK252 hb
             have NB262_263:=nl BK262 hg
             have NB263_262:=nr BK262 hg
             replace BK262:=kb BK262 hb
             clear hb hbox hg
             refine hK.out _ _ ((blk_cell BK252.out 0).trans rfl) (fun hHeld=>?_)
             clear hK K
             refine norm_ (a':=?_) ?_ ?_
             rotate_left
             ·show Act.put _ (some 9) _ = _
              simp only [Act.put,sA,sZ,sS,i64_w,i32_w]
              rfl
             exact norm_ zp (hJ7_8 (gb262,gb263) _ ⟨hHeld,(zR HO251.out),(zk BK252.out),(zk BK262.out),(zk BK263.out),GW262.out,GE262.out,NB252_262.out,NB262_252.out,NB263_262.out,NB262_263.out,GW263.out,GE263.out,NB252_263.out,NB263_252.out,zb⟩)
          ·skip
           rintro v254 w20 ⟨hS_,h0_,h1_,h2_,h3_⟩
           have n0_ : Aside0 (Kd.R (Kd.int .u64) 55 w20 w.heap.size (fun k_=>(w.heap.size≤k_)∧some k_≠(v254 : Value).ownBlock) (.slice Ao15 t249.length co15) t249):=⟨h0_⟩
           have n1_ : Aside0 (Kd.R (Kd.int .u64) 55 w20 w.heap.size (fun k_=>(w.heap.size≤k_)∧some k_≠(.slice Ao15 t249.length co15 : Value).ownBlock) v254 t253):=⟨h1_⟩
           have n2_ : Aside0 (w20.heap[gb252]? = some (.cells #[.slice Ao15 t249.length co15] 47 (0,0))):=⟨h2_⟩
           have n3_ : Aside0 (Below w.heap.size w w20):=⟨h3_⟩
           clear HO251
           clear BK252
           clear HB
           clear h0_ h1_ h2_ h3_
           have HO251:=n0_
           have HO255:=n1_
           have BK252:=n2_
           have HB:=n3_
           clear n0_ n1_ n2_ n3_
           have hHeld : w20.cell? ⟨gb252,0,none⟩ = some (.slice Ao15 t249.length co15):=hS_
           obtain⟨Ao21,co21,eo21⟩:=Kd.R_slice HO255.out
           (first | subst eo21 |(injection eo21 with f1_ f2_ f3_;have f4_:=f1_.symm;have f5_:=f3_.symm;clear f1_ f2_ f3_;subst f4_;subst f5_))
           refine norm_ (a':=?_) ?_ ?_
           rotate_left
           ·simp only [putAll,Act.put,sA,sZ,sS]
            rfl
           refine three_ (i:=3) (j:=7) (k:=8) (Ni:=some 20) (Nj:=some 8) (Nk:=some 9) #[tt,tt,tt,tt,ff,ff,ff,ff,ff,ff,ff] #[tt,tt,tt,ff,ff,ff,ff,tt,ff,ff,ff] #[tt,tt,tt,ff,ff,ff,ff,ff,tt,ff,ff] rfl rfl rfl rfl rfl rfl (three_of HT_.out (by kernel_rfl)) (by decide) (by decide) (by decide) (fun K hK=>?_) (fun K hK=>?_) (fun K hK=>?_)
           ·skip
            refine goes_ Tryd.func35 (by kernel_rfl) rfl #[.agg #[.slice Ao21 t253.length co21],.agg #[.slice Ao15 t249.length co15]] (by rfl) rfl rfl zl ?_
            with_reducible refine(nat_number_parted.calls k _ _ t253 _ _ t249 t256 t259 _ ?side1 ?side2 ?side3 ?side4 A10.out).mono ?_
            (case side1=>exact zC (Kd.R_reads' HO255.out).2.2)
            (case side2=>exact(Kd.R_reads' HO255.out).2.1)
            (case side3=>exact zC (Kd.R_reads' HO251.out).2.2)
            (case side4=>exact(Kd.R_reads' HO251.out).2.1)
            rintro e w22 ⟨v257,v260,rfl,ho0,ho1,hb⟩
            refine⟨_,rfl,?_⟩
            have HO258:=am (Kd.R_lower (Kd.R_new' (Kd.R_new' (Kd.R_newM (M:=fun k_=>(w.heap.size≤k_)) ho0 (below_size zb) (fun k_ h_=>h_)) (Kd.R_lt (zR HO251.out))) (Kd.R_lt (zR HO255.out))) (below_size zb))
            have HO261:=am (Kd.R_lower (Kd.R_new' (Kd.R_new' (Kd.R_newM (M:=fun k_=>(w.heap.size≤k_)) ho1 (below_size zb) (fun k_ h_=>h_)) (Kd.R_lt (zR HO251.out))) (Kd.R_lt (zR HO255.out))) (below_size zb))
            replace HO251:=am (Kd.R_mono (Kd.R_told (Kd.R_told (Kd.R_old (zR HO251.out) hb) (Kd.R_base ho0)) (Kd.R_base ho1)) (fun _ h_=>h_.1))
            replace HO255:=am (Kd.R_mono (Kd.R_told (Kd.R_told (Kd.R_old (zR HO255.out) hb) (Kd.R_base ho0)) (Kd.R_base ho1)) (fun _ h_=>h_.1))
            replace BK252:=kb BK252 hb
            replace HB:=am (below_step zb hb)
            (try clear hb)
            (try clear hb2)
            (try clear hk)
            (try clear hi)
            (try clear ho0)
            (try clear ho1)
            refine hK.out _ _ ((blk_cell BK252.out 0).trans rfl) (fun hHeld=>?_)
            clear hK K
            refine norm_ (a':=?_) ?_ ?_
            rotate_left
            ·show Act.put _ (some 20) _ = _
             simp only [Act.put,sA,sZ,sS,i64_w,i32_w]
             rfl
            refine pu (i:=4) (N:=some 16) #[tt,tt,tt,tt,tt,ff,ff,ff,ff,ff,ff] (any_of HT_.out (by kernel_rfl)) ?_
            refine pu (i:=5) (N:=some 21) #[tt,tt,tt,tt,tt,tt,ff,ff,ff,ff,ff] (any_of HT_.out (by kernel_rfl)) ?_
            refine pu (i:=6) (N:=some 22) #[tt,tt,tt,tt,tt,tt,tt,ff,ff,ff,ff] (any_of HT_.out (by kernel_rfl)) ?_
            exact norm_ zp (hJ1_3 (.slice Ao21 t253.length co21,v257,v260) _ ⟨hHeld,(by refine zR ?_;exact Kd.R_mono HO251.out (fun _ hk=>⟨hk.1.1.1,⟨hk.1.1.2,⟨hk.1.2,hk.2⟩⟩⟩)),(by refine zR ?_;exact Kd.R_mono HO255.out (fun _ hk=>⟨hk.1.1.1,⟨hk.1.1.2,⟨hk.1.2,hk.2⟩⟩⟩)),(by refine zR ?_;exact Kd.R_mono HO258.out (fun _ hk=>⟨hk.1.1.1,⟨hk.1.2,⟨hk.2,hk.1.1.2⟩⟩⟩)),(by refine zR ?_;exact Kd.R_mono HO261.out (fun _ hk=>⟨hk.1.1.1,⟨hk.1.2,⟨hk.2,hk.1.1.2⟩⟩⟩)),(zk BK252.out),zb⟩)
           ·skip
            refine box_step ?hg (N:=8) ?hd (cs:=#[.slice none 0 0]) (t:=47) ?hr ?_;(case hd=>rfl);(case hg=>rfl);(case hr=>exact zh)
            intro gb262 hg w21 hbox hb
            replace HO251:=rb HO251 hb
            replace HO255:=rb HO255 hb
            have BK262:=am (hbox)
            have GW262:=gw w hg
            have GE262:=gw w hg
            replace HB:=am (below_step zb hb)
            have NB252_262:=nl BK252 hg
            have NB262_252:=nr BK252 hg
            replace BK252:=kb BK252 hb
            clear hb hbox hg
            refine hK.out _ _ ((blk_cell BK252.out 0).trans rfl) (fun hHeld=>?_)
            clear hK K
            refine norm_ (a':=?_) ?_ ?_
            rotate_left
            ·show Act.put _ (some 8) _ = _
             simp only [Act.put,sA,sZ,sS,i64_w,i32_w]
             rfl
            exact norm_ zp (hJ1_7 ((.slice Ao21 t253.length co21),gb262) _ ⟨hHeld,(zR HO251.out),(zR HO255.out),(zk BK252.out),(zk BK262.out),GW262.out,GE262.out,NB252_262.out,NB262_252.out,zb⟩)
           ·skip
            refine box_step ?hg (N:=9) ?hd (cs:=#[.slice none 0 0]) (t:=47) ?hr ?_;(case hd=>rfl);(case hg=>rfl);(case hr=>exact zh)
            intro gb263 hg w21 hbox hb
            replace HO251:=rb HO251 hb
            replace HO255:=rb HO255 hb
            have BK263:=am (hbox)
            have GW263:=gw w hg
            have GE263:=gw w hg
            replace HB:=am (below_step zb hb)
            have NB252_263:=nl BK252 hg
            have NB263_252:=nr BK252 hg
            replace BK252:=kb BK252 hb
            clear hb hbox hg
            refine hK.out _ _ ((blk_cell BK252.out 0).trans rfl) (fun hHeld=>?_)
            clear hK K
            refine norm_ (a':=?_) ?_ ?_
            rotate_left
            ·show Act.put _ (some 9) _ = _
             simp only [Act.put,sA,sZ,sS,i64_w,i32_w]
             rfl
            exact norm_ zp (hJ1_8 ((.slice Ao21 t253.length co21),gb263) _ ⟨hHeld,(zR HO251.out),(zR HO255.out),(zk BK252.out),(zk BK263.out),GW263.out,GE263.out,NB252_263.out,NB263_252.out,zb⟩)
         ·skip
          rintro⟨gb262,gb263⟩ w21 ⟨hS_,h0_,h1_,h2_,h3_,h4_,h5_,h6_,h7_,h8_,h9_,h10_,h11_,h12_,h13_,h14_⟩
          have n0_ : Aside0 (Kd.R (Kd.int .u64) 55 w21 w.heap.size (fun k_=>(w.heap.size≤k_)) (.slice Ao15 t249.length co15) t249):=⟨h0_⟩
          have n1_ : Aside0 (w21.heap[gb252]? = some (.cells #[.slice Ao15 t249.length co15] 47 (0,0))):=⟨h1_⟩
          have n2_ : Aside0 (w21.heap[gb262]? = some (.cells #[.slice none 0 0] 47 (0,0))):=⟨h2_⟩
          have n3_ : Aside0 (w21.heap[gb263]? = some (.cells #[.slice none 0 0] 47 (0,0))):=⟨h3_⟩
          have n4_ : Aside0 (w.heap.size≤gb262):=⟨h4_⟩
          have n5_ : Aside0 (w.heap.size≤gb262):=⟨h5_⟩
          have n6_ : Aside0 (gb252≠gb262):=⟨h6_⟩
          have n7_ : Aside0 (gb262≠gb252):=⟨h7_⟩
          have n8_ : Aside0 (gb263≠gb262):=⟨h8_⟩
          have n9_ : Aside0 (gb262≠gb263):=⟨h9_⟩
          have n10_ : Aside0 (w.heap.size≤gb263):=⟨h10_⟩
          have n11_ : Aside0 (w.heap.size≤gb263):=⟨h11_⟩
          have n12_ : Aside0 (gb252≠gb263):=⟨h12_⟩
          have n13_ : Aside0 (gb263≠gb252):=⟨h13_⟩
          have n14_ : Aside0 (Below w.heap.size w w21):=⟨h14_⟩
          clear HO251
          clear BK252
          clear HB
          clear h0_ h1_ h2_ h3_ h4_ h5_ h6_ h7_ h8_ h9_ h10_ h11_ h12_ h13_ h14_
          have HO251:=n0_
          have BK252:=n1_
          have BK262:=n2_
          have BK263:=n3_
          have GW262:=n4_
          have GE262:=n5_
          have NB252_262:=n6_
          have NB262_252:=n7_
          have NB263_262:=n8_
          have NB262_263:=n9_
          have GW263:=n10_
          have GE263:=n11_
          have NB252_263:=n12_
          have NB263_252:=n13_
          have HB:=n14_
          clear n0_ n1_ n2_ n3_ n4_ n5_ n6_ n7_ n8_ n9_ n10_ n11_ n12_ n13_ n14_
          have hHeld : w21.cell? ⟨gb252,0,none⟩ = some (.slice Ao15 t249.length co15):=hS_
          refine norm_ (a':=?_) ?_ ?_
          rotate_left
          ·simp only [putAll,Act.put,sA,sZ,sS]
           rfl
          refine one_ (i:=1) (N:=some 18) #[tt,tt,tt,ff,ff,ff,ff,tt,tt,ff,ff] rfl rfl (one_of HT_.out (by kernel_rfl)) (by decide) (fun K hK=>?_)
          refine goes_ Tryd.func31 (by kernel_rfl) rfl #[.slice A0 l0.length c0] (by rfl) rfl rfl zl ?_
          with_reducible refine(nat_of.calls k _ _ l0 t253 _ ?side1 ?side2 A9.out).mono ?_
          (case side1=>repeat (first | exact(Kd.C_below HR0.out HB.out) |(with_reducible refine Kd.C_alloc ?_ _) |(with_reducible refine Kd.C_drewN ?_ _) |(with_reducible refine Kd.C_drew ?_)))
          (case side2=>exact HC0.out)
          rintro e w22 ⟨v254,rfl,ho0,hb⟩
          refine⟨_,rfl,?_⟩
          have HO255:=am (Kd.R_lower (Kd.R_new' (Kd.R_newM (M:=fun k_=>(w.heap.size≤k_)) ho0 (below_size zb) (fun k_ h_=>h_)) (Kd.R_lt (zR HO251.out))) (below_size zb))
          replace HO251:=re HO251 (Kd.R_base ho0) hb
          replace BK252:=kb BK252 hb
          replace BK262:=kb BK262 hb
          replace BK263:=kb BK263 hb
          replace HB:=am (below_step zb hb)
          (try clear hb)
          (try clear hb2)
          (try clear hk)
          (try clear hi)
          (try clear ho0)
          refine hK.out _ _ ((blk_cell BK252.out 0).trans rfl) (fun hHeld=>?_)
          clear hK K
          refine norm_ (a':=?_) ?_ ?_
          rotate_left
          ·show Act.put _ (some 18) _ = _
           simp only [Act.put,sA,sZ,sS,i64_w,i32_w]
           rfl
          exact norm_ zp (hJ1_7_8 (v254,gb262,gb263) _ ⟨hHeld,(zR HO251.out),(by refine zR ?_;exact Kd.R_mono HO255.out (fun _ hk=>⟨hk.1.1,hk.2⟩)),(zk BK252.out),(zk BK262.out),(zk BK263.out),GW262.out,GE262.out,NB252_262.out,NB262_252.out,NB263_262.out,NB262_263.out,GW263.out,GE263.out,NB252_263.out,NB263_252.out,zb⟩)
        ·skip
         rintro⟨v254,gb263⟩ w21 ⟨hS_,h0_,h1_,h2_,h3_,h4_,h5_,h6_,h7_,h8_⟩
         have n0_ : Aside0 (Kd.R (Kd.int .u64) 55 w21 w.heap.size (fun k_=>(w.heap.size≤k_)∧some k_≠(v254 : Value).ownBlock) (.slice Ao15 t249.length co15) t249):=⟨h0_⟩
         have n1_ : Aside0 (Kd.R (Kd.int .u64) 55 w21 w.heap.size (fun k_=>(w.heap.size≤k_)∧some k_≠(.slice Ao15 t249.length co15 : Value).ownBlock) v254 t253):=⟨h1_⟩
         have n2_ : Aside0 (w21.heap[gb252]? = some (.cells #[.slice Ao15 t249.length co15] 47 (0,0))):=⟨h2_⟩
         have n3_ : Aside0 (w21.heap[gb263]? = some (.cells #[.slice none 0 0] 47 (0,0))):=⟨h3_⟩
         have n4_ : Aside0 (w.heap.size≤gb263):=⟨h4_⟩
         have n5_ : Aside0 (w.heap.size≤gb263):=⟨h5_⟩
         have n6_ : Aside0 (gb252≠gb263):=⟨h6_⟩
         have n7_ : Aside0 (gb263≠gb252):=⟨h7_⟩
         have n8_ : Aside0 (Below w.heap.size w w21):=⟨h8_⟩
         clear HO251
         clear BK252
         clear HB
         clear h0_ h1_ h2_ h3_ h4_ h5_ h6_ h7_ h8_
         have HO251:=n0_
         have HO255:=n1_
         have BK252:=n2_
         have BK263:=n3_
         have GW263:=n4_
         have GE263:=n5_
         have NB252_263:=n6_
         have NB263_252:=n7_
         have HB:=n8_
         clear n0_ n1_ n2_ n3_ n4_ n5_ n6_ n7_ n8_
         have hHeld : w21.cell? ⟨gb252,0,none⟩ = some (.slice Ao15 t249.length co15):=hS_
         obtain⟨Ao22,co22,eo22⟩:=Kd.R_slice HO255.out
         (first | subst eo22 |(injection eo22 with f1_ f2_ f3_;have f4_:=f1_.symm;have f5_:=f3_.symm;clear f1_ f2_ f3_;subst f4_;subst f5_))
         refine norm_ (a':=?_) ?_ ?_
         rotate_left
         ·simp only [putAll,Act.put,sA,sZ,sS]
          rfl
         refine two_ (i:=3) (j:=7) (Ni:=some 20) (Nj:=some 8) #[tt,tt,tt,tt,ff,ff,ff,ff,tt,ff,ff] #[tt,tt,tt,ff,ff,ff,ff,tt,tt,ff,ff] rfl rfl rfl rfl (two_of HT_.out (by kernel_rfl)) (by decide) (by decide) (fun K hK=>?_) (fun K hK=>?_)
         ·skip
          refine goes_ Tryd.func35 (by kernel_rfl) rfl #[.agg #[.slice Ao22 t253.length co22],.agg #[.slice Ao15 t249.length co15]] (by rfl) rfl rfl zl ?_
          with_reducible refine(nat_number_parted.calls k _ _ t253 _ _ t249 t256 t259 _ ?side1 ?side2 ?side3 ?side4 A10.out).mono ?_
          (case side1=>exact zC (Kd.R_reads' HO255.out).2.2)
          (case side2=>exact(Kd.R_reads' HO255.out).2.1)
          (case side3=>exact zC (Kd.R_reads' HO251.out).2.2)
          (case side4=>exact(Kd.R_reads' HO251.out).2.1)
          rintro e w23 ⟨v257,v260,rfl,ho0,ho1,hb⟩
          refine⟨_,rfl,?_⟩
          have HO258:=am (Kd.R_lower (Kd.R_new' (Kd.R_new' (Kd.R_newM (M:=fun k_=>(w.heap.size≤k_)) ho0 (below_size zb) (fun k_ h_=>h_)) (Kd.R_lt (zR HO251.out))) (Kd.R_lt (zR HO255.out))) (below_size zb))
          have HO261:=am (Kd.R_lower (Kd.R_new' (Kd.R_new' (Kd.R_newM (M:=fun k_=>(w.heap.size≤k_)) ho1 (below_size zb) (fun k_ h_=>h_)) (Kd.R_lt (zR HO251.out))) (Kd.R_lt (zR HO255.out))) (below_size zb))
          replace HO251:=am (Kd.R_mono (Kd.R_told (Kd.R_told (Kd.R_old (zR HO251.out) hb) (Kd.R_base ho0)) (Kd.R_base ho1)) (fun _ h_=>h_.1))
          replace HO255:=am (Kd.R_mono (Kd.R_told (Kd.R_told (Kd.R_old (zR HO255.out) hb) (Kd.R_base ho0)) (Kd.R_base ho1)) (fun _ h_=>h_.1))
          replace BK252:=kb BK252 hb
          replace BK263:=kb BK263 hb
          replace HB:=am (below_step zb hb)
          (try clear hb)
          (try clear hb2)
          (try clear hk)
          (try clear hi)
          (try clear ho0)
          (try clear ho1)
          refine hK.out _ _ ((blk_cell BK252.out 0).trans rfl) (fun hHeld=>?_)
          clear hK K
          refine norm_ (a':=?_) ?_ ?_
          rotate_left
          ·show Act.put _ (some 20) _ = _
           simp only [Act.put,sA,sZ,sS,i64_w,i32_w]
           rfl
          refine pu (i:=4) (N:=some 16) #[tt,tt,tt,tt,tt,ff,ff,ff,tt,ff,ff] (any_of HT_.out (by kernel_rfl)) ?_
          refine pu (i:=5) (N:=some 21) #[tt,tt,tt,tt,tt,tt,ff,ff,tt,ff,ff] (any_of HT_.out (by kernel_rfl)) ?_
          refine pu (i:=6) (N:=some 22) #[tt,tt,tt,tt,tt,tt,tt,ff,tt,ff,ff] (any_of HT_.out (by kernel_rfl)) ?_
          exact norm_ zp (hJ1_3_8 (.slice Ao22 t253.length co22,v257,v260,gb263) _ ⟨hHeld,(by refine zR ?_;exact Kd.R_mono HO251.out (fun _ hk=>⟨hk.1.1.1,⟨hk.1.1.2,⟨hk.1.2,hk.2⟩⟩⟩)),(by refine zR ?_;exact Kd.R_mono HO255.out (fun _ hk=>⟨hk.1.1.1,⟨hk.1.1.2,⟨hk.1.2,hk.2⟩⟩⟩)),(by refine zR ?_;exact Kd.R_mono HO258.out (fun _ hk=>⟨hk.1.1.1,⟨hk.1.2,⟨hk.2,hk.1.1.2⟩⟩⟩)),(by refine zR ?_;exact Kd.R_mono HO261.out (fun _ hk=>⟨hk.1.1.1,⟨hk.1.2,⟨hk.2,hk.1.1.2⟩⟩⟩)),(zk BK252.out),(zk BK263.out),GW263.out,GE263.out,NB252_263.out,NB263_252.out,zb⟩)
         ·skip
          refine box_step ?hg (N:=8) ?hd (cs:=#[.slice none 0 0]) (t:=47) ?hr ?_;(case hd=>rfl);(case hg=>rfl);(case hr=>exact zh)
          intro gb262 hg w22 hbox hb
          replace HO251:=rb HO251 hb
          replace HO255:=rb HO255 hb
          have BK262:=am (hbox)
          have GW262:=gw w hg
          have GE262:=gw w hg
          replace HB:=am (below_step zb hb)
          have NB252_262:=nl BK252 hg
          have NB262_252:=nr BK252 hg
          replace BK252:=kb BK252 hb
          have NB263_262:=nl BK263 hg
          have NB262_263:=nr BK263 hg
          replace BK263:=kb BK263 hb
          clear hb hbox hg
          refine hK.out _ _ ((blk_cell BK252.out 0).trans rfl) (fun hHeld=>?_)
          clear hK K
          refine norm_ (a':=?_) ?_ ?_
          rotate_left
          ·show Act.put _ (some 8) _ = _
           simp only [Act.put,sA,sZ,sS,i64_w,i32_w]
           rfl
          exact norm_ zp (hJ1_7_8 ((.slice Ao22 t253.length co22),gb262,gb263) _ ⟨hHeld,(zR HO251.out),(zR HO255.out),(zk BK252.out),(zk BK262.out),(zk BK263.out),GW262.out,GE262.out,NB252_262.out,NB262_252.out,NB263_262.out,NB262_263.out,GW263.out,GE263.out,NB252_263.out,NB263_252.out,zb⟩)
       ·skip
        rintro⟨v254,gb262⟩ w21 ⟨hS_,h0_,h1_,h2_,h3_,h4_,h5_,h6_,h7_,h8_⟩
        have n0_ : Aside0 (Kd.R (Kd.int .u64) 55 w21 w.heap.size (fun k_=>(w.heap.size≤k_)∧some k_≠(v254 : Value).ownBlock) (.slice Ao15 t249.length co15) t249):=⟨h0_⟩
        have n1_ : Aside0 (Kd.R (Kd.int .u64) 55 w21 w.heap.size (fun k_=>(w.heap.size≤k_)∧some k_≠(.slice Ao15 t249.length co15 : Value).ownBlock) v254 t253):=⟨h1_⟩
        have n2_ : Aside0 (w21.heap[gb252]? = some (.cells #[.slice Ao15 t249.length co15] 47 (0,0))):=⟨h2_⟩
        have n3_ : Aside0 (w21.heap[gb262]? = some (.cells #[.slice none 0 0] 47 (0,0))):=⟨h3_⟩
        have n4_ : Aside0 (w.heap.size≤gb262):=⟨h4_⟩
        have n5_ : Aside0 (w.heap.size≤gb262):=⟨h5_⟩
        have n6_ : Aside0 (gb252≠gb262):=⟨h6_⟩
        have n7_ : Aside0 (gb262≠gb252):=⟨h7_⟩
        have n8_ : Aside0 (Below w.heap.size w w21):=⟨h8_⟩
        clear HO251
        clear BK252
        clear HB
        clear h0_ h1_ h2_ h3_ h4_ h5_ h6_ h7_ h8_
        have HO251:=n0_
        have HO255:=n1_
        have BK252:=n2_
        have BK262:=n3_
        have GW262:=n4_
        have GE262:=n5_
        have NB252_262:=n6_
        have NB262_252:=n7_
        have HB:=n8_
        clear n0_ n1_ n2_ n3_ n4_ n5_ n6_ n7_ n8_
        have hHeld : w21.cell? ⟨gb252,0,none⟩ = some (.slice Ao15 t249.length co15):=hS_
        obtain⟨Ao22,co22,eo22⟩:=Kd.R_slice HO255.out
        (first | subst eo22 |(injection eo22 with f1_ f2_ f3_;have f4_:=f1_.symm;have f5_:=f3_.symm;clear f1_ f2_ f3_;subst f4_;subst f5_))
        refine norm_ (a':=?_) ?_ ?_
        rotate_left
        ·simp only [putAll,Act.put,sA,sZ,sS]
         rfl
        refine two_ (i:=3) (j:=8) (Ni:=some 20) (Nj:=some 9) #[tt,tt,tt,tt,ff,ff,ff,tt,ff,ff,ff] #[tt,tt,tt,ff,ff,ff,ff,tt,tt,ff,ff] rfl rfl rfl rfl (two_of HT_.out (by kernel_rfl)) (by decide) (by decide) (fun K hK=>?_) (fun K hK=>?_)
        ·skip
         refine goes_ Tryd.func35 (by kernel_rfl) rfl #[.agg #[.slice Ao22 t253.length co22],.agg #[.slice Ao15 t249.length co15]] (by rfl) rfl rfl zl ?_
         with_reducible refine(nat_number_parted.calls k _ _ t253 _ _ t249 t256 t259 _ ?side1 ?side2 ?side3 ?side4 A10.out).mono ?_
         (case side1=>exact zC (Kd.R_reads' HO255.out).2.2)
         (case side2=>exact(Kd.R_reads' HO255.out).2.1)
         (case side3=>exact zC (Kd.R_reads' HO251.out).2.2)
         (case side4=>exact(Kd.R_reads' HO251.out).2.1)
         rintro e w23 ⟨v257,v260,rfl,ho0,ho1,hb⟩
         refine⟨_,rfl,?_⟩
         have HO258:=am (Kd.R_lower (Kd.R_new' (Kd.R_new' (Kd.R_newM (M:=fun k_=>(w.heap.size≤k_)) ho0 (below_size zb) (fun k_ h_=>h_)) (Kd.R_lt (zR HO251.out))) (Kd.R_lt (zR HO255.out))) (below_size zb))
         have HO261:=am (Kd.R_lower (Kd.R_new' (Kd.R_new' (Kd.R_newM (M:=fun k_=>(w.heap.size≤k_)) ho1 (below_size zb) (fun k_ h_=>h_)) (Kd.R_lt (zR HO251.out))) (Kd.R_lt (zR HO255.out))) (below_size zb))
         replace HO251:=am (Kd.R_mono (Kd.R_told (Kd.R_told (Kd.R_old (zR HO251.out) hb) (Kd.R_base ho0)) (Kd.R_base ho1)) (fun _ h_=>h_.1))
         replace HO255:=am (Kd.R_mono (Kd.R_told (Kd.R_told (Kd.R_old (zR HO255.out) hb) (Kd.R_base ho0)) (Kd.R_base ho1)) (fun _ h_=>h_.1))
         replace BK252:=kb BK252 hb
         replace BK262:=kb BK262 hb
         replace HB:=am (below_step zb hb)
         (try clear hb)
         (try clear hb2)
         (try clear hk)
         (try clear hi)
         (try clear ho0)
         (try clear ho1)
         refine hK.out _ _ ((blk_cell BK252.out 0).trans rfl) (fun hHeld=>?_)
         clear hK K
         refine norm_ (a':=?_) ?_ ?_
         rotate_left
         ·show Act.put _ (some 20) _ = _
          simp only [Act.put,sA,sZ,sS,i64_w,i32_w]
          rfl
         refine pu (i:=4) (N:=some 16) #[tt,tt,tt,tt,tt,ff,ff,tt,ff,ff,ff] (any_of HT_.out (by kernel_rfl)) ?_
         refine pu (i:=5) (N:=some 21) #[tt,tt,tt,tt,tt,tt,ff,tt,ff,ff,ff] (any_of HT_.out (by kernel_rfl)) ?_
         refine pu (i:=6) (N:=some 22) #[tt,tt,tt,tt,tt,tt,tt,tt,ff,ff,ff] (any_of HT_.out (by kernel_rfl)) ?_
         exact norm_ zp (hJ1_3_7 (.slice Ao22 t253.length co22,v257,v260,gb262) _ ⟨hHeld,(by refine zR ?_;exact Kd.R_mono HO251.out (fun _ hk=>⟨hk.1.1.1,⟨hk.1.1.2,⟨hk.1.2,hk.2⟩⟩⟩)),(by refine zR ?_;exact Kd.R_mono HO255.out (fun _ hk=>⟨hk.1.1.1,⟨hk.1.1.2,⟨hk.1.2,hk.2⟩⟩⟩)),(by refine zR ?_;exact Kd.R_mono HO258.out (fun _ hk=>⟨hk.1.1.1,⟨hk.1.2,⟨hk.2,hk.1.1.2⟩⟩⟩)),(by refine zR ?_;exact Kd.R_mono HO261.out (fun _ hk=>⟨hk.1.1.1,⟨hk.1.2,⟨hk.2,hk.1.1.2⟩⟩⟩)),(zk BK252.out),(zk BK262.out),GW262.out,GE262.out,NB252_262.out,NB262_252.out,zb⟩)
        ·skip
         refine box_step ?hg (N:=9) ?hd (cs:=#[.slice none 0 0]) (t:=47) ?hr ?_;(case hd=>rfl);(case hg=>rfl);(case hr=>exact zh)
         intro gb263 hg w22 hbox hb
         replace HO251:=rb HO251 hb
         replace HO255:=rb HO255 hb
         have BK263:=am (hbox)
         have GW263:=gw w hg
         have GE263:=gw w hg
         replace HB:=am (below_step zb hb)
         have NB252_263:=nl BK252 hg
         have NB263_252:=nr BK252 hg
         replace BK252:=kb BK252 hb
         have NB262_263:=nl BK262 hg
         have NB263_262:=nr BK262 hg
         replace BK262:=kb BK262 hb
         clear hb hbox hg
         refine hK.out _ _ ((blk_cell BK252.out 0).trans rfl) (fun hHeld=>?_)
         clear hK K
         refine norm_ (a':=?_) ?_ ?_
         rotate_left
         ·show Act.put _ (some 9) _ = _
          simp only [Act.put,sA,sZ,sS,i64_w,i32_w]
          rfl
         exact norm_ zp (hJ1_7_8 ((.slice Ao22 t253.length co22),gb262,gb263) _ ⟨hHeld,(zR HO251.out),(zR HO255.out),(zk BK252.out),(zk BK262.out),(zk BK263.out),GW262.out,GE262.out,NB252_262.out,NB262_252.out,NB263_262.out,NB262_263.out,GW263.out,GE263.out,NB252_263.out,NB263_252.out,zb⟩)
      ·skip
       rintro⟨v254,v257,v260⟩ w22 ⟨hS_,h0_,h1_,h2_,h3_,h4_,h5_⟩
       have n0_ : Aside0 (Kd.R (Kd.int .u64) 55 w22 w.heap.size (fun k_=>(w.heap.size≤k_)∧some k_≠(v254 : Value).ownBlock∧some k_≠(v257 : Value).ownBlock∧some k_≠(v260 : Value).ownBlock) (.slice Ao15 t249.length co15) t249):=⟨h0_⟩
       have n1_ : Aside0 (Kd.R (Kd.int .u64) 55 w22 w.heap.size (fun k_=>(w.heap.size≤k_)∧some k_≠(.slice Ao15 t249.length co15 : Value).ownBlock∧some k_≠(v257 : Value).ownBlock∧some k_≠(v260 : Value).ownBlock) v254 t253):=⟨h1_⟩
       have n2_ : Aside0 (Kd.R (Kd.int .u64) 55 w22 w.heap.size (fun k_=>(w.heap.size≤k_)∧some k_≠(.slice Ao15 t249.length co15 : Value).ownBlock∧some k_≠(v254 : Value).ownBlock∧some k_≠(v260 : Value).ownBlock) v257 t256):=⟨h2_⟩
       have n3_ : Aside0 (Kd.R (Kd.int .u64) 55 w22 w.heap.size (fun k_=>(w.heap.size≤k_)∧some k_≠(.slice Ao15 t249.length co15 : Value).ownBlock∧some k_≠(v254 : Value).ownBlock∧some k_≠(v257 : Value).ownBlock) v260 t259):=⟨h3_⟩
       have n4_ : Aside0 (w22.heap[gb252]? = some (.cells #[.slice Ao15 t249.length co15] 47 (0,0))):=⟨h4_⟩
       have n5_ : Aside0 (Below w.heap.size w w22):=⟨h5_⟩
       clear HO251
       clear BK252
       clear HB
       clear h0_ h1_ h2_ h3_ h4_ h5_
       have HO251:=n0_
       have HO255:=n1_
       have HO258:=n2_
       have HO261:=n3_
       have BK252:=n4_
       have HB:=n5_
       clear n0_ n1_ n2_ n3_ n4_ n5_
       have hHeld : w22.cell? ⟨gb252,0,none⟩ = some (.slice Ao15 t249.length co15):=hS_
       refine norm_ (a':=?_) ?_ ?_
       rotate_left
       ·simp only [putAll,Act.put,sA,sZ,sS]
        rfl
       refine two_ (i:=7) (j:=8) (Ni:=some 8) (Nj:=some 9) #[tt,tt,tt,tt,tt,tt,tt,tt,ff,ff,ff] #[tt,tt,tt,tt,tt,tt,tt,ff,tt,ff,ff] rfl rfl rfl rfl (two_of HT_.out (by kernel_rfl)) (by decide) (by decide) (fun K hK=>?_) (fun K hK=>?_)
       ·skip
        refine box_step ?hg (N:=8) ?hd (cs:=#[.slice none 0 0]) (t:=47) ?hr ?_;(case hd=>rfl);(case hg=>rfl);(case hr=>exact zh)
        intro gb262 hg w23 hbox hb
        replace HO251:=rb HO251 hb
        replace HO255:=rb HO255 hb
        replace HO258:=rb HO258 hb
        replace HO261:=rb HO261 hb
        have BK262:=am (hbox)
        have GW262:=gw w hg
        have GE262:=gw w hg
        replace HB:=am (below_step zb hb)
        have NB252_262:=nl BK252 hg
        have NB262_252:=nr BK252 hg
        replace BK252:=kb BK252 hb
        clear hb hbox hg
        refine hK.out _ _ ((blk_cell BK252.out 0).trans rfl) (fun hHeld=>?_)
        clear hK K
        refine norm_ (a':=?_) ?_ ?_
        rotate_left
        ·show Act.put _ (some 8) _ = _
         simp only [Act.put,sA,sZ,sS,i64_w,i32_w]
         rfl
        exact norm_ zp (hJ1_3_7 (v254,v257,v260,gb262) _ ⟨hHeld,(zR HO251.out),(zR HO255.out),(zR HO258.out),(zR HO261.out),(zk BK252.out),(zk BK262.out),GW262.out,GE262.out,NB252_262.out,NB262_252.out,zb⟩)
       ·skip
        refine box_step ?hg (N:=9) ?hd (cs:=#[.slice none 0 0]) (t:=47) ?hr ?_;(case hd=>rfl);(case hg=>rfl);(case hr=>exact zh)
        intro gb263 hg w23 hbox hb
        replace HO251:=rb HO251 hb
        replace HO255:=rb HO255 hb
        replace HO258:=rb HO258 hb
        replace HO261:=rb HO261 hb
        have BK263:=am (hbox)
        have GW263:=gw w hg
        have GE263:=gw w hg
        replace HB:=am (below_step zb hb)
        have NB252_263:=nl BK252 hg
        have NB263_252:=nr BK252 hg
        replace BK252:=kb BK252 hb
        clear hb hbox hg
        refine hK.out _ _ ((blk_cell BK252.out 0).trans rfl) (fun hHeld=>?_)
        clear hK K
        refine norm_ (a':=?_) ?_ ?_
        rotate_left
        ·show Act.put _ (some 9) _ = _
         simp only [Act.put,sA,sZ,sS,i64_w,i32_w]
         rfl
        exact norm_ zp (hJ1_3_8 (v254,v257,v260,gb263) _ ⟨hHeld,(zR HO251.out),(zR HO255.out),(zR HO258.out),(zR HO261.out),(zk BK252.out),(zk BK263.out),GW263.out,GE263.out,NB252_263.out,NB263_252.out,zb⟩)
     ·skip
      rintro⟨v254,gb262,gb263⟩ w22 ⟨hS_,h0_,h1_,h2_,h3_,h4_,h5_,h6_,h7_,h8_,h9_,h10_,h11_,h12_,h13_,h14_,h15_⟩
      have n0_ : Aside0 (Kd.R (Kd.int .u64) 55 w22 w.heap.size (fun k_=>(w.heap.size≤k_)∧some k_≠(v254 : Value).ownBlock) (.slice Ao15 t249.length co15) t249):=⟨h0_⟩
      have n1_ : Aside0 (Kd.R (Kd.int .u64) 55 w22 w.heap.size (fun k_=>(w.heap.size≤k_)∧some k_≠(.slice Ao15 t249.length co15 : Value).ownBlock) v254 t253):=⟨h1_⟩
      have n2_ : Aside0 (w22.heap[gb252]? = some (.cells #[.slice Ao15 t249.length co15] 47 (0,0))):=⟨h2_⟩
      have n3_ : Aside0 (w22.heap[gb262]? = some (.cells #[.slice none 0 0] 47 (0,0))):=⟨h3_⟩
      have n4_ : Aside0 (w22.heap[gb263]? = some (.cells #[.slice none 0 0] 47 (0,0))):=⟨h4_⟩
      have n5_ : Aside0 (w.heap.size≤gb262):=⟨h5_⟩
      have n6_ : Aside0 (w.heap.size≤gb262):=⟨h6_⟩
      have n7_ : Aside0 (gb252≠gb262):=⟨h7_⟩
      have n8_ : Aside0 (gb262≠gb252):=⟨h8_⟩
      have n9_ : Aside0 (gb263≠gb262):=⟨h9_⟩
      have n10_ : Aside0 (gb262≠gb263):=⟨h10_⟩
      have n11_ : Aside0 (w.heap.size≤gb263):=⟨h11_⟩
      have n12_ : Aside0 (w.heap.size≤gb263):=⟨h12_⟩
      have n13_ : Aside0 (gb252≠gb263):=⟨h13_⟩
      have n14_ : Aside0 (gb263≠gb252):=⟨h14_⟩
      have n15_ : Aside0 (Below w.heap.size w w22):=⟨h15_⟩
      clear HO251
      clear BK252
      clear HB
      clear h0_ h1_ h2_ h3_ h4_ h5_ h6_ h7_ h8_ h9_ h10_ h11_ h12_ h13_ h14_ h15_
      have HO251:=n0_
      have HO255:=n1_
      have BK252:=n2_
      have BK262:=n3_
      have BK263:=n4_
      have GW262:=n5_
      have GE262:=n6_
      have NB252_262:=n7_
      have NB262_252:=n8_
      have NB263_262:=n9_
      have NB262_263:=n10_
      have GW263:=n11_
      have GE263:=n12_
      have NB252_263:=n13_
      have NB263_252:=n14_
      have HB:=n15_
      clear n0_ n1_ n2_ n3_ n4_ n5_ n6_ n7_ n8_ n9_ n10_ n11_ n12_ n13_ n14_ n15_
      have hHeld : w22.cell? ⟨gb252,0,none⟩ = some (.slice Ao15 t249.length co15):=hS_
      obtain⟨Ao23,co23,eo23⟩:=Kd.R_slice HO255.out
      (first | subst eo23 |(injection eo23 with f1_ f2_ f3_;have f4_:=f1_.symm;have f5_:=f3_.symm;clear f1_ f2_ f3_;subst f4_;subst f5_))
      refine norm_ (a':=?_) ?_ ?_
      rotate_left
      ·simp only [putAll,Act.put,sA,sZ,sS]
       rfl
      refine one_ (i:=3) (N:=some 20) #[tt,tt,tt,tt,ff,ff,ff,tt,tt,ff,ff] rfl rfl (one_of HT_.out (by kernel_rfl)) (by decide) (fun K hK=>?_)
      refine goes_ Tryd.func35 (by kernel_rfl) rfl #[.agg #[.slice Ao23 t253.length co23],.agg #[.slice Ao15 t249.length co15]] (by rfl) rfl rfl zl ?_
      with_reducible refine(nat_number_parted.calls k _ _ t253 _ _ t249 t256 t259 _ ?side1 ?side2 ?side3 ?side4 A10.out).mono ?_
      (case side1=>exact zC (Kd.R_reads' HO255.out).2.2)
      (case side2=>exact(Kd.R_reads' HO255.out).2.1)
      (case side3=>exact zC (Kd.R_reads' HO251.out).2.2)
      (case side4=>exact(Kd.R_reads' HO251.out).2.1)
      rintro e w24 ⟨v257,v260,rfl,ho0,ho1,hb⟩
      refine⟨_,rfl,?_⟩
      have HO258:=am (Kd.R_lower (Kd.R_new' (Kd.R_new' (Kd.R_newM (M:=fun k_=>(w.heap.size≤k_)) ho0 (below_size zb) (fun k_ h_=>h_)) (Kd.R_lt (zR HO251.out))) (Kd.R_lt (zR HO255.out))) (below_size zb))
      have HO261:=am (Kd.R_lower (Kd.R_new' (Kd.R_new' (Kd.R_newM (M:=fun k_=>(w.heap.size≤k_)) ho1 (below_size zb) (fun k_ h_=>h_)) (Kd.R_lt (zR HO251.out))) (Kd.R_lt (zR HO255.out))) (below_size zb))
      replace HO251:=am (Kd.R_mono (Kd.R_told (Kd.R_told (Kd.R_old (zR HO251.out) hb) (Kd.R_base ho0)) (Kd.R_base ho1)) (fun _ h_=>h_.1))
      replace HO255:=am (Kd.R_mono (Kd.R_told (Kd.R_told (Kd.R_old (zR HO255.out) hb) (Kd.R_base ho0)) (Kd.R_base ho1)) (fun _ h_=>h_.1))
      replace BK252:=kb BK252 hb
      replace BK262:=kb BK262 hb
      replace BK263:=kb BK263 hb
      replace HB:=am (below_step zb hb)
      (try clear hb)
      (try clear hb2)
      (try clear hk)
      (try clear hi)
      (try clear ho0)
      (try clear ho1)
      refine hK.out _ _ ((blk_cell BK252.out 0).trans rfl) (fun hHeld=>?_)
      clear hK K
      refine norm_ (a':=?_) ?_ ?_
      rotate_left
      ·show Act.put _ (some 20) _ = _
       simp only [Act.put,sA,sZ,sS,i64_w,i32_w]
       rfl
      refine pu (i:=4) (N:=some 16) #[tt,tt,tt,tt,tt,ff,ff,tt,tt,ff,ff] (any_of HT_.out (by kernel_rfl)) ?_
      refine pu (i:=5) (N:=some 21) #[tt,tt,tt,tt,tt,tt,ff,tt,tt,ff,ff] (any_of HT_.out (by kernel_rfl)) ?_
      refine pu (i:=6) (N:=some 22) #[tt,tt,tt,tt,tt,tt,tt,tt,tt,ff,ff] (any_of HT_.out (by kernel_rfl)) ?_
      exact norm_ zp (hJ1_3_7_8 (.slice Ao23 t253.length co23,v257,v260,gb262,gb263) _ ⟨hHeld,(by refine zR ?_;exact Kd.R_mono HO251.out (fun _ hk=>⟨hk.1.1.1,⟨hk.1.1.2,⟨hk.1.2,hk.2⟩⟩⟩)),(by refine zR ?_;exact Kd.R_mono HO255.out (fun _ hk=>⟨hk.1.1.1,⟨hk.1.1.2,⟨hk.1.2,hk.2⟩⟩⟩)),(by refine zR ?_;exact Kd.R_mono HO258.out (fun _ hk=>⟨hk.1.1.1,⟨hk.1.2,⟨hk.2,hk.1.1.2⟩⟩⟩)),(by refine zR ?_;exact Kd.R_mono HO261.out (fun _ hk=>⟨hk.1.1.1,⟨hk.1.2,⟨hk.2,hk.1.1.2⟩⟩⟩)),(zk BK252.out),(zk BK262.out),(zk BK263.out),GW262.out,GE262.out,NB252_262.out,NB262_252.out,NB263_262.out,NB262_263.out,GW263.out,GE263.out,NB252_263.out,NB263_252.out,zb⟩)
    ·skip
     rintro⟨v254,v257,v260,gb263⟩ w23 ⟨hS_,h0_,h1_,h2_,h3_,h4_,h5_,h6_,h7_,h8_,h9_,h10_⟩
     have n0_ : Aside0 (Kd.R (Kd.int .u64) 55 w23 w.heap.size (fun k_=>(w.heap.size≤k_)∧some k_≠(v254 : Value).ownBlock∧some k_≠(v257 : Value).ownBlock∧some k_≠(v260 : Value).ownBlock) (.slice Ao15 t249.length co15) t249):=⟨h0_⟩
     have n1_ : Aside0 (Kd.R (Kd.int .u64) 55 w23 w.heap.size (fun k_=>(w.heap.size≤k_)∧some k_≠(.slice Ao15 t249.length co15 : Value).ownBlock∧some k_≠(v257 : Value).ownBlock∧some k_≠(v260 : Value).ownBlock) v254 t253):=⟨h1_⟩
     have n2_ : Aside0 (Kd.R (Kd.int .u64) 55 w23 w.heap.size (fun k_=>(w.heap.size≤k_)∧some k_≠(.slice Ao15 t249.length co15 : Value).ownBlock∧some k_≠(v254 : Value).ownBlock∧some k_≠(v260 : Value).ownBlock) v257 t256):=⟨h2_⟩
     have n3_ : Aside0 (Kd.R (Kd.int .u64) 55 w23 w.heap.size (fun k_=>(w.heap.size≤k_)∧some k_≠(.slice Ao15 t249.length co15 : Value).ownBlock∧some k_≠(v254 : Value).ownBlock∧some k_≠(v257 : Value).ownBlock) v260 t259):=⟨h3_⟩
     have n4_ : Aside0 (w23.heap[gb252]? = some (.cells #[.slice Ao15 t249.length co15] 47 (0,0))):=⟨h4_⟩
     have n5_ : Aside0 (w23.heap[gb263]? = some (.cells #[.slice none 0 0] 47 (0,0))):=⟨h5_⟩
     have n6_ : Aside0 (w.heap.size≤gb263):=⟨h6_⟩
     have n7_ : Aside0 (w.heap.size≤gb263):=⟨h7_⟩
     have n8_ : Aside0 (gb252≠gb263):=⟨h8_⟩
     have n9_ : Aside0 (gb263≠gb252):=⟨h9_⟩
     have n10_ : Aside0 (Below w.heap.size w w23):=⟨h10_⟩
     clear HO251
     clear BK252
     clear HB
     clear h0_ h1_ h2_ h3_ h4_ h5_ h6_ h7_ h8_ h9_ h10_
     have HO251:=n0_
     have HO255:=n1_
     have HO258:=n2_
     have HO261:=n3_
     have BK252:=n4_
     have BK263:=n5_
     have GW263:=n6_
     have GE263:=n7_
     have NB252_263:=n8_
     have NB263_252:=n9_
     have HB:=n10_
     clear n0_ n1_ n2_ n3_ n4_ n5_ n6_ n7_ n8_ n9_ n10_
     have hHeld : w23.cell? ⟨gb252,0,none⟩ = some (.slice Ao15 t249.length co15):=hS_
     refine norm_ (a':=?_) ?_ ?_
     rotate_left
     ·simp only [putAll,Act.put,sA,sZ,sS]
      rfl
     refine one_ (i:=7) (N:=some 8) #[tt,tt,tt,tt,tt,tt,tt,tt,tt,ff,ff] rfl rfl (one_of HT_.out (by kernel_rfl)) (by decide) (fun K hK=>?_)
     refine box_step ?hg (N:=8) ?hd (cs:=#[.slice none 0 0]) (t:=47) ?hr ?_;(case hd=>rfl);(case hg=>rfl);(case hr=>exact zh)
     intro gb262 hg w24 hbox hb
     replace HO251:=rb HO251 hb
     replace HO255:=rb HO255 hb
     replace HO258:=rb HO258 hb
     replace HO261:=rb HO261 hb
     have BK262:=am (hbox)
     have GW262:=gw w hg
     have GE262:=gw w hg
     replace HB:=am (below_step zb hb)
     have NB252_262:=nl BK252 hg
     have NB262_252:=nr BK252 hg
     replace BK252:=kb BK252 hb
     have NB263_262:=nl BK263 hg
     have NB262_263:=nr BK263 hg
     replace BK263:=kb BK263 hb
     clear hb hbox hg
     refine hK.out _ _ ((blk_cell BK252.out 0).trans rfl) (fun hHeld=>?_)
     clear hK K
     refine norm_ (a':=?_) ?_ ?_
     rotate_left
     ·show Act.put _ (some 8) _ = _
      simp only [Act.put,sA,sZ,sS,i64_w,i32_w]
      rfl
     exact norm_ zp (hJ1_3_7_8 (v254,v257,v260,gb262,gb263) _ ⟨hHeld,(zR HO251.out),(zR HO255.out),(zR HO258.out),(zR HO261.out),(zk BK252.out),(zk BK262.out),(zk BK263.out),GW262.out,GE262.out,NB252_262.out,NB262_252.out,NB263_262.out,NB262_263.out,GW263.out,GE263.out,NB252_263.out,NB263_252.out,zb⟩)
   ·skip
    rintro⟨v254,v257,v260,gb262⟩ w23 ⟨hS_,h0_,h1_,h2_,h3_,h4_,h5_,h6_,h7_,h8_,h9_,h10_⟩
    have n0_ : Aside0 (Kd.R (Kd.int .u64) 55 w23 w.heap.size (fun k_=>(w.heap.size≤k_)∧some k_≠(v254 : Value).ownBlock∧some k_≠(v257 : Value).ownBlock∧some k_≠(v260 : Value).ownBlock) (.slice Ao15 t249.length co15) t249):=⟨h0_⟩
    have n1_ : Aside0 (Kd.R (Kd.int .u64) 55 w23 w.heap.size (fun k_=>(w.heap.size≤k_)∧some k_≠(.slice Ao15 t249.length co15 : Value).ownBlock∧some k_≠(v257 : Value).ownBlock∧some k_≠(v260 : Value).ownBlock) v254 t253):=⟨h1_⟩
    have n2_ : Aside0 (Kd.R (Kd.int .u64) 55 w23 w.heap.size (fun k_=>(w.heap.size≤k_)∧some k_≠(.slice Ao15 t249.length co15 : Value).ownBlock∧some k_≠(v254 : Value).ownBlock∧some k_≠(v260 : Value).ownBlock) v257 t256):=⟨h2_⟩
    have n3_ : Aside0 (Kd.R (Kd.int .u64) 55 w23 w.heap.size (fun k_=>(w.heap.size≤k_)∧some k_≠(.slice Ao15 t249.length co15 : Value).ownBlock∧some k_≠(v254 : Value).ownBlock∧some k_≠(v257 : Value).ownBlock) v260 t259):=⟨h3_⟩
    have n4_ : Aside0 (w23.heap[gb252]? = some (.cells #[.slice Ao15 t249.length co15] 47 (0,0))):=⟨h4_⟩
    have n5_ : Aside0 (w23.heap[gb262]? = some (.cells #[.slice none 0 0] 47 (0,0))):=⟨h5_⟩
    have n6_ : Aside0 (w.heap.size≤gb262):=⟨h6_⟩
    have n7_ : Aside0 (w.heap.size≤gb262):=⟨h7_⟩
    have n8_ : Aside0 (gb252≠gb262):=⟨h8_⟩
    have n9_ : Aside0 (gb262≠gb252):=⟨h9_⟩
    have n10_ : Aside0 (Below w.heap.size w w23):=⟨h10_⟩
    clear HO251
    clear BK252
    clear HB
    clear h0_ h1_ h2_ h3_ h4_ h5_ h6_ h7_ h8_ h9_ h10_
    have HO251:=n0_
    have HO255:=n1_
    have HO258:=n2_
    have HO261:=n3_
    have BK252:=n4_
    have BK262:=n5_
    have GW262:=n6_
    have GE262:=n7_
    have NB252_262:=n8_
    have NB262_252:=n9_
    have HB:=n10_
    clear n0_ n1_ n2_ n3_ n4_ n5_ n6_ n7_ n8_ n9_ n10_
    have hHeld : w23.cell? ⟨gb252,0,none⟩ = some (.slice Ao15 t249.length co15):=hS_
    refine norm_ (a':=?_) ?_ ?_
    rotate_left
    ·simp only [putAll,Act.put,sA,sZ,sS]
     rfl
    refine one_ (i:=8) (N:=some 9) #[tt,tt,tt,tt,tt,tt,tt,tt,tt,ff,ff] rfl rfl (one_of HT_.out (by kernel_rfl)) (by decide) (fun K hK=>?_)
    refine box_step ?hg (N:=9) ?hd (cs:=#[.slice none 0 0]) (t:=47) ?hr ?_;(case hd=>rfl);(case hg=>rfl);(case hr=>exact zh)
    intro gb263 hg w24 hbox hb
    replace HO251:=rb HO251 hb
    replace HO255:=rb HO255 hb
    replace HO258:=rb HO258 hb
    replace HO261:=rb HO261 hb
    have BK263:=am (hbox)
    have GW263:=gw w hg
    have GE263:=gw w hg
    replace HB:=am (below_step zb hb)
    have NB252_263:=nl BK252 hg
    have NB263_252:=nr BK252 hg
    replace BK252:=kb BK252 hb
    have NB262_263:=nl BK262 hg
    have NB263_262:=nr BK262 hg
    replace BK262:=kb BK262 hb
    clear hb hbox hg
    refine hK.out _ _ ((blk_cell BK252.out 0).trans rfl) (fun hHeld=>?_)
    clear hK K
    refine norm_ (a':=?_) ?_ ?_
    rotate_left
    ·show Act.put _ (some 9) _ = _
     simp only [Act.put,sA,sZ,sS,i64_w,i32_w]
     rfl
    exact norm_ zp (hJ1_3_7_8 (v254,v257,v260,gb262,gb263) _ ⟨hHeld,(zR HO251.out),(zR HO255.out),(zR HO258.out),(zR HO261.out),(zk BK252.out),(zk BK262.out),(zk BK263.out),GW262.out,GE262.out,NB252_262.out,NB262_252.out,NB263_262.out,NB262_263.out,GW263.out,GE263.out,NB252_263.out,NB263_252.out,zb⟩)
  rintro⟨v254,v257,v260,gb262,gb263⟩ w24 ⟨hS_,h0_,h1_,h2_,h3_,h4_,h5_,h6_,h7_,h8_,h9_,h10_,h11_,h12_,h13_,h14_,h15_,h16_,h17_⟩
  have n0_ : Aside0 (Kd.R (Kd.int .u64) 55 w24 w.heap.size (fun k_=>(w.heap.size≤k_)∧some k_≠(v254 : Value).ownBlock∧some k_≠(v257 : Value).ownBlock∧some k_≠(v260 : Value).ownBlock) (.slice Ao15 t249.length co15) t249):=⟨h0_⟩
  have n1_ : Aside0 (Kd.R (Kd.int .u64) 55 w24 w.heap.size (fun k_=>(w.heap.size≤k_)∧some k_≠(.slice Ao15 t249.length co15 : Value).ownBlock∧some k_≠(v257 : Value).ownBlock∧some k_≠(v260 : Value).ownBlock) v254 t253):=⟨h1_⟩
  have n2_ : Aside0 (Kd.R (Kd.int .u64) 55 w24 w.heap.size (fun k_=>(w.heap.size≤k_)∧some k_≠(.slice Ao15 t249.length co15 : Value).ownBlock∧some k_≠(v254 : Value).ownBlock∧some k_≠(v260 : Value).ownBlock) v257 t256):=⟨h2_⟩
  have n3_ : Aside0 (Kd.R (Kd.int .u64) 55 w24 w.heap.size (fun k_=>(w.heap.size≤k_)∧some k_≠(.slice Ao15 t249.length co15 : Value).ownBlock∧some k_≠(v254 : Value).ownBlock∧some k_≠(v257 : Value).ownBlock) v260 t259):=⟨h3_⟩
  have n4_ : Aside0 (w24.heap[gb252]? = some (.cells #[.slice Ao15 t249.length co15] 47 (0,0))):=⟨h4_⟩
  have n5_ : Aside0 (w24.heap[gb262]? = some (.cells #[.slice none 0 0] 47 (0,0))):=⟨h5_⟩
  have n6_ : Aside0 (w24.heap[gb263]? = some (.cells #[.slice none 0 0] 47 (0,0))):=⟨h6_⟩
  have n7_ : Aside0 (w.heap.size≤gb262):=⟨h7_⟩
  have n8_ : Aside0 (w.heap.size≤gb262):=⟨h8_⟩
  have n9_ : Aside0 (gb252≠gb262):=⟨h9_⟩
  have n10_ : Aside0 (gb262≠gb252):=⟨h10_⟩
  have n11_ : Aside0 (gb263≠gb262):=⟨h11_⟩
  have n12_ : Aside0 (gb262≠gb263):=⟨h12_⟩
  have n13_ : Aside0 (w.heap.size≤gb263):=⟨h13_⟩
  have n14_ : Aside0 (w.heap.size≤gb263):=⟨h14_⟩
  have n15_ : Aside0 (gb252≠gb263):=⟨h15_⟩
  have n16_ : Aside0 (gb263≠gb252):=⟨h16_⟩
  have n17_ : Aside0 (Below w.heap.size w w24):=⟨h17_⟩
  clear HO251
  clear BK252
  clear HB
  clear h0_ h1_ h2_ h3_ h4_ h5_ h6_ h7_ h8_ h9_ h10_ h11_ h12_ h13_ h14_ h15_ h16_ h17_
  have HO251:=n0_
  have HO255:=n1_
  have HO258:=n2_
  have HO261:=n3_
  have BK252:=n4_
  have BK262:=n5_
  have BK263:=n6_
  have GW262:=n7_
  have GE262:=n8_
  have NB252_262:=n9_
  have NB262_252:=n10_
  have NB263_262:=n11_
  have NB262_263:=n12_
  have GW263:=n13_
  have GE263:=n14_
  have NB252_263:=n15_
  have NB263_252:=n16_
  have HB:=n17_
  clear n0_ n1_ n2_ n3_ n4_ n5_ n6_ n7_ n8_ n9_ n10_ n11_ n12_ n13_ n14_ n15_ n16_ n17_
  have hHeld : w24.cell? ⟨gb252,0,none⟩ = some (.slice Ao15 t249.length co15):=hS_
  obtain⟨Ao25,co25,eo25⟩:=Kd.R_slice HO258.out
  (first | subst eo25 |(injection eo25 with f1_ f2_ f3_;have f4_:=f1_.symm;have f5_:=f3_.symm;clear f1_ f2_ f3_;subst f4_;subst f5_))
  obtain⟨Ao27,co27,eo27⟩:=Kd.R_slice HO261.out
  (first | subst eo27 |(injection eo27 with f1_ f2_ f3_;have f4_:=f1_.symm;have f5_:=f3_.symm;clear f1_ f2_ f3_;subst f4_;subst f5_))
  refine norm_ (a':=?_) ?_ ?_
  rotate_left
  ·simp only [putAll,Act.put,sA,sZ,sS]
   rfl
  refine one_ (i:=9) (N:=none) #[tt,tt,tt,tt,tt,tt,tt,tt,tt,tt,ff] rfl rfl (one_of HT_.out (by kernel_rfl)) (by decide) (fun K hK=>?_)
  have hs26 : w24.cell? ⟨gb262,0,none⟩ = some (.slice none 0 0):=(blk_cell BK262.out 0).trans rfl
  have hfs26:=blk_frozen BK262.out 0
  have hns26_0:=NB252_262.out
  have hns26_2:=NB263_262.out
  have hms26_0:=NB262_252.out
  have hms26_2:=NB262_263.out
  refine skip_ (w1:=?_) (by rfl) rfl ?_ ?_
  rotate_left
  ·go_simp
   rfl
  refine hK.out _ _ (((cell_far (p:=⟨gb262,_,none⟩) NB252_262.out _).trans (hHeld))) (fun hHeld=>?_)
  clear hK K
  refine one_ (i:=10) (N:=none) #[tt,tt,tt,tt,tt,tt,tt,tt,tt,tt,tt] rfl rfl (one_of HT_.out (by kernel_rfl)) (by decide) (fun K hK=>?_)
  have hs28 : w24.cell? ⟨gb263,0,none⟩ = some (.slice none 0 0):=(blk_cell BK263.out 0).trans rfl
  have hfs28:=blk_frozen BK263.out 0
  have hns28_0:=NB252_263.out
  have hns28_1:=NB262_263.out
  have hms28_0:=NB263_252.out
  have hms28_1:=NB263_262.out
  refine skip_ (w1:=?_) (by rfl) rfl ?_ ?_
  rotate_left
  ·go_simp
   rfl
  refine hK.out _ _ (((cell_far (p:=⟨gb263,_,none⟩) NB252_263.out _).trans (hHeld))) (fun hHeld=>?_)
  clear hK K
  refine done_ (done_of HT_.out (by kernel_rfl)) ?_
  try go_wp2
  have n0_ : Aside0 (Kd.R (Kd.int .u64) 55 ((w24.setCell ⟨gb262,0,none⟩ (.slice Ao25 t256.length co25)).setCell ⟨gb263,0,none⟩ (.slice Ao27 t259.length co27)) w.heap.size (fun k_=>(w.heap.size≤k_)∧some k_≠(v254 : Value).ownBlock∧some k_≠(.slice Ao25 t256.length co25 : Value).ownBlock∧some k_≠(.slice Ao27 t259.length co27 : Value).ownBlock) (.slice Ao15 t249.length co15) t249):=⟨by refine zR ?_;exact Kd.R_mono (Kd.R_far (p:=⟨gb263,0,none⟩) (Kd.R_far (p:=⟨gb262,0,none⟩) (Kd.R_types (Kd.R_types HO251.out BK262.out (by decide)) BK263.out (by decide)) (fun _ hk=>hk.1.2) (.slice Ao25 t256.length co25)) (fun _ hk=>hk.2) (.slice Ao27 t259.length co27)) (fun _ hk=>⟨hk.1.1.1,⟨hk.1.1.2.1,⟨hk.1.1.2.2.1,hk.1.1.2.2.2⟩⟩⟩)⟩
  have n1_ : Aside0 (Kd.R (Kd.int .u64) 55 ((w24.setCell ⟨gb262,0,none⟩ (.slice Ao25 t256.length co25)).setCell ⟨gb263,0,none⟩ (.slice Ao27 t259.length co27)) w.heap.size (fun k_=>(w.heap.size≤k_)∧some k_≠(.slice Ao15 t249.length co15 : Value).ownBlock∧some k_≠(.slice Ao25 t256.length co25 : Value).ownBlock∧some k_≠(.slice Ao27 t259.length co27 : Value).ownBlock) v254 t253):=⟨by refine zR ?_;exact Kd.R_mono (Kd.R_far (p:=⟨gb263,0,none⟩) (Kd.R_far (p:=⟨gb262,0,none⟩) (Kd.R_types (Kd.R_types HO255.out BK262.out (by decide)) BK263.out (by decide)) (fun _ hk=>hk.1.2) (.slice Ao25 t256.length co25)) (fun _ hk=>hk.2) (.slice Ao27 t259.length co27)) (fun _ hk=>⟨hk.1.1.1,⟨hk.1.1.2.1,⟨hk.1.1.2.2.1,hk.1.1.2.2.2⟩⟩⟩)⟩
  have n2_ : Aside0 (Kd.R (Kd.int .u64) 55 ((w24.setCell ⟨gb262,0,none⟩ (.slice Ao25 t256.length co25)).setCell ⟨gb263,0,none⟩ (.slice Ao27 t259.length co27)) w.heap.size (fun k_=>(w.heap.size≤k_)∧some k_≠(.slice Ao15 t249.length co15 : Value).ownBlock∧some k_≠(v254 : Value).ownBlock∧some k_≠(.slice Ao27 t259.length co27 : Value).ownBlock) (.slice Ao25 t256.length co25) t256):=⟨by refine zR ?_;exact Kd.R_mono (Kd.R_far (p:=⟨gb263,0,none⟩) (Kd.R_far (p:=⟨gb262,0,none⟩) (Kd.R_types (Kd.R_types HO258.out BK262.out (by decide)) BK263.out (by decide)) (fun _ hk=>hk.1.2) (.slice Ao25 t256.length co25)) (fun _ hk=>hk.2) (.slice Ao27 t259.length co27)) (fun _ hk=>⟨hk.1.1.1,⟨hk.1.1.2.1,⟨hk.1.1.2.2.1,hk.1.1.2.2.2⟩⟩⟩)⟩
  have n3_ : Aside0 (Kd.R (Kd.int .u64) 55 ((w24.setCell ⟨gb262,0,none⟩ (.slice Ao25 t256.length co25)).setCell ⟨gb263,0,none⟩ (.slice Ao27 t259.length co27)) w.heap.size (fun k_=>(w.heap.size≤k_)∧some k_≠(.slice Ao15 t249.length co15 : Value).ownBlock∧some k_≠(v254 : Value).ownBlock∧some k_≠(.slice Ao25 t256.length co25 : Value).ownBlock) (.slice Ao27 t259.length co27) t259):=⟨by refine zR ?_;exact Kd.R_mono (Kd.R_far (p:=⟨gb263,0,none⟩) (Kd.R_far (p:=⟨gb262,0,none⟩) (Kd.R_types (Kd.R_types HO261.out BK262.out (by decide)) BK263.out (by decide)) (fun _ hk=>hk.1.2) (.slice Ao25 t256.length co25)) (fun _ hk=>hk.2) (.slice Ao27 t259.length co27)) (fun _ hk=>⟨hk.1.1.1,⟨hk.1.1.2.1,⟨hk.1.1.2.2.1,hk.1.1.2.2.2⟩⟩⟩)⟩
  have n4_ : Aside0 (((w24.setCell ⟨gb262,0,none⟩ (.slice Ao25 t256.length co25)).setCell ⟨gb263,0,none⟩ (.slice Ao27 t259.length co27)).heap[gb252]? = some (.cells #[.slice Ao15 t249.length co15] 47 (0,0))):=⟨by refine zk ?_;refine blk_far ?_ NB252_263.out _;refine zk ?_;refine blk_far ?_ NB252_262.out _;refine zk ?_;exact BK252.out⟩
  have n5_ : Aside0 (((w24.setCell ⟨gb262,0,none⟩ (.slice Ao25 t256.length co25)).setCell ⟨gb263,0,none⟩ (.slice Ao27 t259.length co27)).heap[gb262]? = some (.cells #[.slice Ao25 t256.length co25] 47 (0,0))):=⟨by refine zk ?_;refine blk_far ?_ NB262_263.out _;refine zk ?_;refine blk_put (cs:=#[.slice none 0 0]) ?_ 0 _ rfl;refine zk ?_;exact BK262.out⟩
  have n6_ : Aside0 (((w24.setCell ⟨gb262,0,none⟩ (.slice Ao25 t256.length co25)).setCell ⟨gb263,0,none⟩ (.slice Ao27 t259.length co27)).heap[gb263]? = some (.cells #[.slice Ao27 t259.length co27] 47 (0,0))):=⟨by refine zk ?_;refine blk_put (cs:=#[.slice none 0 0]) ?_ 0 _ rfl;refine zk ?_;refine blk_far ?_ NB263_262.out _;refine zk ?_;exact BK263.out⟩
  have n7_ : Aside0 (Below w.heap.size w ((w24.setCell ⟨gb262,0,none⟩ (.slice Ao25 t256.length co25)).setCell ⟨gb263,0,none⟩ (.slice Ao27 t259.length co27))):=⟨zb⟩
  (try clear HO251)
  (try clear HO255)
  (try clear HO258)
  (try clear HO261)
  (try clear BK252)
  (try clear BK262)
  (try clear BK263)
  (try clear HB)
  generalize ((w24.setCell ⟨gb262,0,none⟩ (.slice Ao25 t256.length co25)).setCell ⟨gb263,0,none⟩ (.slice Ao27 t259.length co27)) = w29 at n0_ n1_ n2_ n3_ n4_ n5_ n6_ n7_ ⊢
  have HO251:=n0_
  have HO255:=n1_
  have HO258:=n2_
  have HO261:=n3_
  have BK252:=n4_
  have BK262:=n5_
  have BK263:=n6_
  have HB:=n7_
  clear n0_ n1_ n2_ n3_ n4_ n5_ n6_ n7_
  replace HO251:=am (Kd.R_drew HO251.out)
  replace HO255:=am (Kd.R_drew HO255.out)
  replace HO258:=am (Kd.R_drew HO258.out)
  replace HO261:=am (Kd.R_drew HO261.out)
  replace BK252:=am (blk_drew BK252.out)
  replace BK262:=am (blk_drew BK262.out)
  replace BK263:=am (blk_drew BK263.out)
  replace HB:=am (below_drew1 HB.out)
  refine start_ (n:=7) (S:=fun w'=>w'.cell? ⟨gb262,0,none⟩ = some (.slice Ao25 t256.length co25)∧w'.cell? ⟨gb263,0,none⟩ = some (.slice Ao27 t259.length co27)) (ds:=[]) #[ff,ff,ff,ff,ff,ff,ff] (by kernel_rfl) rfl rfl ⟨(blk_cell BK262.out 0).trans rfl,(blk_cell BK263.out 0).trans rfl⟩ (fun hHeld=>?_)
  generalize w29.drew = w30 at HO251 HO255 HO258 HO261 BK252 BK262 BK263 HB hHeld ⊢
  refine take_ (i:=0) (N:=some 23) (v:=?_) (a':=?_) #[tt,ff,ff,ff,ff,ff,ff] rfl rfl (by kernel_rfl) (fun _ _ _ h=>h) (Or.inl ⟨by rfl,?_⟩) hHeld ?_ ?_
  rotate_left
  ·rintro w' ⟨s0,s1⟩
   go_simp
   with_reducible rfl
  rotate_left
  ·simp only [Act.put,sA,sZ,sS,i64_w,i32_w]
   rfl
  refine take_ (i:=2) (N:=some 25) (v:=?_) (a':=?_) #[tt,ff,tt,ff,ff,ff,ff] rfl rfl (by kernel_rfl) (fun _ _ _ h=>h) (Or.inl ⟨by rfl,?_⟩) hHeld ?_ ?_
  rotate_left
  ·rintro w' ⟨s0,s1⟩
   go_simp
   with_reducible rfl
  rotate_left
  ·simp only [Act.put,sA,sZ,sS,i64_w,i32_w]
   rfl
  refine one_ (i:=1) (N:=some 24) #[tt,tt,tt,ff,ff,ff,ff] rfl rfl (by kernel_rfl) (by decide) (fun K hK=>?_)
  refine goes_ Tryd.func34 (by kernel_rfl) rfl #[.agg #[.slice Ao25 t256.length co25]] (by rfl) rfl rfl zl ?_
  with_reducible refine(nat_number_row.calls k _ _ t256 t264 _ ?side1 ?side2 A11.out).mono ?_
  (case side1=>exact zC (Kd.R_reads' HO258.out).2.2)
  (case side2=>exact(Kd.R_reads' HO258.out).2.1)
  rintro e w31 ⟨v265,rfl,ho0,hb⟩
  refine⟨_,rfl,?_⟩
  replace HO251:=rb HO251 hb
  replace HO255:=rb HO255 hb
  replace HO258:=rb HO258 hb
  replace HO261:=rb HO261 hb
  have HO266:=am (Kd.R_lower (Kd.R_newM (M:=fun k_=>(w.heap.size≤k_)) ho0 (below_size zb) (fun k_ h_=>h_)) (below_size zb))
  replace BK252:=kb BK252 hb
  replace BK262:=kb BK262 hb
  replace BK263:=kb BK263 hb
  replace HB:=am (below_step zb hb)
  (try clear hb)
  (try clear hb2)
  (try clear hk)
  (try clear hi)
  (try clear ho0)
  refine hK.out _ _ ⟨(blk_cell BK262.out 0).trans rfl,(blk_cell BK263.out 0).trans rfl⟩ (fun hHeld=>?_)
  clear hK K
  refine norm_ (a':=?_) ?_ ?_
  rotate_left
  ·show Act.put _ (some 24) _ = _
   simp only [Act.put,sA,sZ,sS,i64_w,i32_w]
   rfl
  refine one_ (i:=3) (N:=some 26) #[tt,tt,tt,tt,ff,ff,ff] rfl rfl (by kernel_rfl) (by decide) (fun K hK=>?_)
  refine goes_ Tryd.func34 (by kernel_rfl) rfl #[.agg #[.slice Ao27 t259.length co27]] (by rfl) rfl rfl zl ?_
  with_reducible refine(nat_number_row.calls k _ _ t259 t267 _ ?side1 ?side2 A12.out).mono ?_
  (case side1=>exact zC (Kd.R_reads' HO261.out).2.2)
  (case side2=>exact(Kd.R_reads' HO261.out).2.1)
  rintro e w32 ⟨v268,rfl,ho0,hb⟩
  refine⟨_,rfl,?_⟩
  replace HO251:=rb HO251 hb
  replace HO255:=rb HO255 hb
  replace HO258:=rb HO258 hb
  replace HO261:=rb HO261 hb
  have HO269:=am (Kd.R_lower (Kd.R_new' (Kd.R_newM (M:=fun k_=>(w.heap.size≤k_)) ho0 (below_size zb) (fun k_ h_=>h_)) (Kd.R_lt (zR HO266.out))) (below_size zb))
  replace HO266:=re HO266 (Kd.R_base ho0) hb
  replace BK252:=kb BK252 hb
  replace BK262:=kb BK262 hb
  replace BK263:=kb BK263 hb
  replace HB:=am (below_step zb hb)
  (try clear hb)
  (try clear hb2)
  (try clear hk)
  (try clear hi)
  (try clear ho0)
  refine hK.out _ _ ⟨(blk_cell BK262.out 0).trans rfl,(blk_cell BK263.out 0).trans rfl⟩ (fun hHeld=>?_)
  clear hK K
  refine norm_ (a':=?_) ?_ ?_
  rotate_left
  ·show Act.put _ (some 26) _ = _
   simp only [Act.put,sA,sZ,sS,i64_w,i32_w]
   rfl
  refine pu (i:=4) (N:=some 4) #[tt,tt,tt,tt,tt,ff,ff] (by kernel_rfl) ?_
  refine pu (i:=5) (N:=some 5) #[tt,tt,tt,tt,tt,tt,ff] (by kernel_rfl) ?_
  refine pu (i:=6) (N:=some 6) #[tt,tt,tt,tt,tt,tt,tt] (by kernel_rfl) ?_
  refine done_ (by kernel_rfl) ?_
  try go_wp2
  go_ret3
  exact⟨_,_,zf,Kd.R_V (by refine zR ?_;exact Kd.R_mono HO266.out (fun _ hk=>hk.1.1)),Kd.R_V (by refine zR ?_;exact Kd.R_mono HO269.out (fun _ hk=>hk.1.1)),zb⟩

end Go.Proofs.YtnkkndninilciaaDoor.X

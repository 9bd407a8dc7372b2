-- Printed by xprint.py, this session's own program (wip/tool), out of the translation. Lean checks it.
import Derived.Test.YtcbohpmdeboeoaaGreatDoorRRZ
import Derived.Test.YtcbohpmdeboeoaaGreatDoorRRX0
import Derived.Test.YtcbohpmdeboeoaaGreatDoorRRX1
import Derived.Test.YtcbohpmdeboeoaaGreatDoorRRX2
import Derived.Test.YtcbohpmdeboeoaaGreatDoorRRX3
import Derived.Test.YtcbohpmdeboeoaaGreatDoorRRX4
import Derived.Test.YtcbohpmdeboeoaaGreatDoorRRX7
namespace Go.Proofs.YtcbohpmdeboeoaaGreatDoorRR.X
open Go.Proofs.YtcbohpmdeboeoaaGreatDoorRR.Z
open Go.RowKit Go.Proofs.YtcbohpmdeboeoaaGreatDoorRRW.PrintWords Go.Proofs.YtcbohpmdeboeoaaGreatDoorRRW.PrintLast Go.Proofs.YtcbohpmdeboeoaaGreatDoorRRW.PrintMore
open List renaming setIfInBounds_toArray → sA, set_cons_zero → sZ, set_cons_succ → sS
open Aside0 renaming mk → am
open Bool renaming true → tt, false → ff
set_option maxHeartbeats 8000000
set_option maxRecDepth 100000
attribute [local go_sem] max2_int min2_int max_two min_two max_three min_three max_four min_four   -- for this text's walks alone
set_option linter.unusedVariables false
set_option linter.unusedSimpArgs false

/-! ### num_Gcd_1: function 43 -/
def num_Gcd_1.l0 : Nat→List Int→Bool→List Int→Bool→Option (List Int×Bool)
 | 0,_,_,_,_=>none
 | k + 1,x325000,x325001,x326000,x326001=>(num_size_zero.f x326000).bind fun t327=>(if t327 = true then((num_made.f k x325000 false).bind fun bt328=>(some (bt328.1,bt328.2))) else((nat_DivMod.f k x325000 x326000).bind fun bt332=>((num_made.f k bt332.2.1 false).bind fun bt339=>(num_Gcd_1.l0 k x326000 x326001 bt339.1 bt339.2))))
def num_Gcd_1.f (k : Nat) (l0_0 : List Int) (a0_1 : Bool) (l1_0 : List Int) (a1_1 : Bool) : Option (List Int×Bool):=num_Gcd_1.l0 k l0_0 a0_1 l1_0 a1_1
theorem num_Gcd_1.calls (k : Nat) (P0_0_ : Nat→Prop) (A0_0 : Option Addr) (c0_0 : Nat) (l0_0 : List Int) (a0_1 : Bool) (P1_0_ : Nat→Prop) (A1_0 : Option Addr) (c1_0 : Nat) (l1_0 : List Int) (a1_1 : Bool) (r1 : List Int) (r2 : Bool) (w : World) (hs0_0 : Kd.V (Kd.int .u32) 60 w w.heap.size (fun k_=>P0_0_ k_) (.slice A0_0 l0_0.length c0_0) l0_0) (hs1_0 : Kd.V (Kd.int .u32) 60 w w.heap.size (fun k_=>P1_0_ k_) (.slice A1_0 l1_0.length c1_0) l1_0) (h : num_Gcd_1.f k l0_0 a0_1 l1_0 a1_1 = some (r1,r2)) :
  Calls Tryz.prog 43 #[.agg #[.slice A0_0 l0_0.length c0_0,.bool a0_1],.agg #[.slice A1_0 l1_0.length c1_0,.bool a1_1]] w fun e w'=>∃ v0_ : Value,e = .returned (.agg #[v0_,.bool r2])∧Kd.R (Kd.int .u32) 60 w' w.heap.size (fun k_=>(w.heap.size≤k_)) v0_ r1∧Below w.heap.size w w':=by
 have hu54:=Tryz.underlying54
 have hu52:=Tryz.underlying52
 have HO0_0:=am (show Kd.V (Kd.int .u32) 60 w w.heap.size (fun k_=>((P0_0_ k_∨P1_0_ k_)∨w.heap.size≤k_)) (.slice A0_0 l0_0.length c0_0) l0_0 from Kd.V_mono hs0_0 (fun k_ hk=>.inl (.inl hk)))
 have HO1_0:=am (show Kd.V (Kd.int .u32) 60 w w.heap.size (fun k_=>((P0_0_ k_∨P1_0_ k_)∨w.heap.size≤k_)) (.slice A1_0 l1_0.length c1_0) l1_0 from Kd.V_mono hs1_0 (fun k_ hk=>.inl (.inr hk)))
 have HB:=am (Below.refl w.heap.size w)
 have H : (num_Gcd_1.l0 k l0_0 a0_1 l1_0 a1_1) = some (r1,r2):=h
 clear h
 have H':=am H
 clear H
 go_enter Tryz.func43,Tryz.ntmps43
 go_wp2_with (first |((with_reducible refine gate_dst (N:=2) rfl ?_);refine box_event ?hg (N:=2) ?hd (cs:=#[.slice A0_0 l0_0.length c0_0,.bool a0_1]) (t:=54) ?hr ?_;(case hd=>rfl);(case hg=>rfl);(case hr=>exact zh);intro gb324 hg w3 hbox hb;replace HO0_0:=vB gb324 HO0_0 hg hb;replace HO1_0:=vB gb324 HO1_0 hg hb;have BK324:=am (hbox);have GW324:=gw w hg;have GE324:=gw w hg;replace HB:=am (below_step zb hb);clear hb hbox hg) |((with_reducible refine gate_dst (N:=3) rfl ?_);refine box_event ?hg (N:=3) ?hd (cs:=#[.slice A1_0 l1_0.length c1_0,.bool a1_1]) (t:=54) ?hr ?_;(case hd=>rfl);(case hg=>rfl);(case hr=>exact zh);intro gb325 hg w4 hbox hb;replace HO0_0:=vB gb325 HO0_0 hg hb;replace HO1_0:=vB gb325 HO1_0 hg hb;have BK325:=am (hbox);have GW325:=gw w hg;have GE325:=gw w hg;replace HB:=am (below_step zb hb);have NB324_325:=nl BK324 hg;have NB325_324:=nr BK324 hg;replace BK324:=kb BK324 hb;clear hb hbox hg) |((with_reducible refine gate_dst (N:=4) rfl ?_);refine box_event ?hg (N:=4) ?hd (cs:=#[.slice none 0 0,.bool false]) (t:=54) ?hr ?_;(case hd=>rfl);(case hg=>rfl);(case hr=>exact zh);intro gb326 hg w5 hbox hb;replace HO0_0:=vB gb326 HO0_0 hg hb;replace HO1_0:=vB gb326 HO1_0 hg hb;have BK326:=am (hbox);have GW326:=gw w hg;have GE326:=gw w hg;replace HB:=am (below_step zb hb);have NB324_326:=nl BK324 hg;have NB326_324:=nr BK324 hg;replace BK324:=kb BK324 hb;have NB325_326:=nl BK325 hg;have NB326_325:=nr BK325 hg;replace BK325:=kb BK325 hb;clear hb hbox hg))
 (try simp only [Act.put,sA,sZ,sS])
 go_loopg [] k (fun kq w'=>∃ (x325000_1 : List Int) (x325001_1 : Bool) (x326000_1 : List Int) (x326001_1 : Bool) (u325000 : Value) (u326000 : Value),Aside0 (num_Gcd_1.l0 kq x325000_1 x325001_1 x326000_1 x326001_1 = some (r1,r2))∧Aside0 (kq≤k)∧Aside0 (Kd.V (Kd.int .u32) 60 w' w.heap.size (fun k_=>((P0_0_ k_∨P1_0_ k_)∨w.heap.size≤k_)∧k_≠gb324∧k_≠gb325∧k_≠gb326) u325000 x325000_1)∧Aside0 (Kd.V (Kd.int .u32) 60 w' w.heap.size (fun k_=>((P0_0_ k_∨P1_0_ k_)∨w.heap.size≤k_)∧k_≠gb324∧k_≠gb325∧k_≠gb326) u326000 x326000_1)∧Aside0 (w'.heap[gb324]? = some (.cells #[u325000,.bool x325001_1] 54 (0,0)))∧Aside0 (w'.heap[gb325]? = some (.cells #[u326000,.bool x326001_1] 54 (0,0)))∧Aside0 (w'.heap[gb326]? = some (.cells #[(.slice none 0 0),.bool false] 54 (0,0)))∧Aside0 (Below w.heap.size w w'))
 case atStart=>exact⟨(l0_0),(a0_1),(l1_0),(a1_1),(.slice A0_0 l0_0.length c0_0),(.slice A1_0 l1_0.length c1_0),H',⟨Nat.le_refl _⟩,⟨by refine zV ?_;exact Kd.V_mono HO0_0.out (fun _ hk=>⟨hk.1.1.1,⟨hk.1.1.2,⟨hk.1.2,hk.2⟩⟩⟩)⟩,⟨by refine zV ?_;exact Kd.V_mono HO1_0.out (fun _ hk=>⟨hk.1.1.1,⟨hk.1.1.2,⟨hk.1.2,hk.2⟩⟩⟩)⟩,⟨zk BK324.out⟩,⟨zk BK325.out⟩,⟨zk BK326.out⟩,⟨zb⟩⟩
 case round=>
  clear H'
  try clear c1
  try clear p2
  try clear c4
  obtain⟨x325000_1,x325001_1,x326000_1,x326001_1,u325000,u326000,HA,HK1,HO_325000,HO_326000,BK324,BK325,BK326,HB⟩:=hrel
  cases gk with
  | zero=>exact absurd HA.out (by simp [num_Gcd_1.l0])
  | succ k1=>
   have H:=HA.out
   clear HA
   simp only [num_Gcd_1.l0] at H
   replace H:=Option.bind_eq_some_iff.mp H
   obtain⟨t327,A60,H⟩:=H
   try dsimp only at H
   have A6:=am A60
   clear A60
   by_cases c7 : t327 = true
   ·subst c7
    have H1 : ((num_made.f k1 x325000_1 false).bind fun bt328=>(some (bt328.1,bt328.2))) = some (r1,r2):=by rw [if_pos rfl] at H;exact H
    clear H
    have H:=H1
    clear H1
    replace H:=Option.bind_eq_some_iff.mp H
    obtain⟨⟨t328,t331⟩,A80,H⟩:=H
    try dsimp only at H
    have A8:=am A80
    clear A80
    simp only [Option.some.injEq,Prod.mk.injEq] at H
    obtain⟨rfl,rfl⟩:=H
    have hnb9:=NB325_324.out
    have hnc9:=NB324_325.out
    have hnb10:=NB325_326.out
    have hnc10:=NB326_325.out
    have hcz11_0 : wr.cell? ⟨gb325,0,none⟩ = some (u326000):=(blk_cell BK325.out 0).trans rfl
    have hcz11_1 : wr.cell? ⟨gb325,1,none⟩ = some (.bool x326001_1):=(blk_cell BK325.out 1).trans rfl
    have hfz11_0:=blk_frozen BK325.out 0
    have hfz11_1:=blk_frozen BK325.out 1
    obtain⟨Ao12,co12,eo12⟩:=Kd.V_slice HO_326000.out
    subst eo12
    go_wp2_with (first |((with_reducible refine gate_callee (f:=44) rfl ?_);refine goesL_ (some 10) rfl rfl Tryz.func44 (by kernel_rfl) rfl #[.agg #[.slice Ao12 x326000_1.length co12]] rfl zl ?_;(with_reducible refine(num_size_zero.calls _ _ x326000_1 true _ ?side1 ?side2 A6.out).mono ?_);(case side1=>exact zC (Kd.V_reads' HO_326000.out).2.2);(case side2=>exact(Kd.V_reads' HO_326000.out).2.1);rintro e w13 ⟨rfl,hb⟩;refine⟨_,rfl,?_⟩;replace HO_325000:=vb HO_325000 hb;replace HO_326000:=vb HO_326000 hb;replace BK324:=kb BK324 hb;replace BK325:=kb BK325 hb;replace BK326:=kb BK326 hb;replace HB:=am (below_step zb hb);(try clear hb);have hnb14:=NB324_326.out;have hnc14:=NB326_324.out;have hcz15_0 : w13.cell? ⟨gb324,0,none⟩ = some (u325000):=(blk_cell BK324.out 0).trans rfl;have hcz15_1 : w13.cell? ⟨gb324,1,none⟩ = some (.bool x325001_1):=(blk_cell BK324.out 1).trans rfl;have hfz15_0:=blk_frozen BK324.out 0;have hfz15_1:=blk_frozen BK324.out 1;obtain⟨Ao16,co16,eo16⟩:=Kd.V_slice HO_325000.out;subst eo16) |((with_reducible refine gate_callee (f:=29) rfl ?_);refine goesL_ (some 29) rfl rfl Tryz.func29 (by kernel_rfl) rfl #[.slice Ao16 x325000_1.length co16,.bool false] rfl zl ?_;(with_reducible refine(num_made.calls k1 _ _ x325000_1 false t328 t331 _ ?side1 ?side2 A8.out).mono ?_);(case side1=>exact zC (Kd.V_reads' HO_325000.out).2.2);(case side2=>exact(Kd.V_reads' HO_325000.out).2.1);rintro e w17 ⟨v329,rfl,ho0,hb⟩;refine⟨_,rfl,?_⟩;replace HO_325000:=ve HO_325000 (Kd.R_base ho0) hb;replace HO_326000:=ve HO_326000 (Kd.R_base ho0) hb;have HO330:=am (Kd.R_lower (Kd.R_newM (M:=fun k_=>(w.heap.size≤k_)) ho0 (below_size zb) (fun k_ h_=>h_)) (below_size zb));replace BK324:=kb BK324 hb;replace BK325:=kb BK325 hb;replace BK326:=kb BK326 hb;replace HB:=am (below_step zb hb);(try clear hb);(try clear ho0);obtain⟨Ao18,co18,eo18⟩:=Kd.R_slice HO330.out;subst eo18;have hcz19_0 : w17.cell? ⟨gb326,0,none⟩ = some (.slice none 0 0):=(blk_cell BK326.out 0).trans rfl;have hcz19_1 : w17.cell? ⟨gb326,1,none⟩ = some (.bool false):=(blk_cell BK326.out 1).trans rfl;have hfz19_0:=blk_frozen BK326.out 0;have hfz19_1:=blk_frozen BK326.out 1))
    refine bodyPost_ret (results_cell_row rfl _ _ gb326 54 #[.slice Ao18 t328.length co18,.bool t331] (0,0) _ rfl (by refine zk ?_;refine blk_put (cs:=#[.slice Ao18 t328.length co18,.bool false]) ?_ 1 _ rfl;refine zk ?_;refine blk_put (cs:=#[.slice none 0 0,.bool false]) ?_ 0 _ rfl;refine zk ?_;exact BK326.out) Tryz.underlying54 rfl (by kernel_rfl)) rfl ?_
    exact⟨_,zf,by refine zR ?_;exact Kd.R_mono (Kd.R_far (p:=⟨gb326,1,none⟩) (Kd.R_far (p:=⟨gb326,0,none⟩) (Kd.R_types HO330.out BK326.out (by decide)) (fun _ hk=>hk.2) (.slice Ao18 t328.length co18)) (fun _ hk=>hk.2) (.bool t331)) (fun _ hk=>hk.1.1),zb⟩
   ·replace c7:=Bool.eq_false_iff.mpr c7
    subst c7
    have H1 : ((nat_DivMod.f k1 x325000_1 x326000_1).bind fun bt332=>((num_made.f k1 bt332.2.1 false).bind fun bt339=>(num_Gcd_1.l0 k1 x326000_1 x326001_1 bt339.1 bt339.2))) = some (r1,r2):=by rw [if_neg (show ¬ (false = true) by decide)] at H;exact H
    clear H
    have H:=H1
    clear H1
    replace H:=Option.bind_eq_some_iff.mp H
    obtain⟨⟨t332,t333,t334⟩,A200,H⟩:=H
    try dsimp only at H
    have A20:=am A200
    clear A200
    replace H:=Option.bind_eq_some_iff.mp H
    obtain⟨⟨t339,t342⟩,A210,H⟩:=H
    try dsimp only at H
    have A21:=am A210
    clear A210
    have H':=am H
    clear H
    have hnb22:=NB325_324.out
    have hnc22:=NB324_325.out
    have hnb23:=NB325_326.out
    have hnc23:=NB326_325.out
    have hcz24_0 : wr.cell? ⟨gb325,0,none⟩ = some (u326000):=(blk_cell BK325.out 0).trans rfl
    have hcz24_1 : wr.cell? ⟨gb325,1,none⟩ = some (.bool x326001_1):=(blk_cell BK325.out 1).trans rfl
    have hfz24_0:=blk_frozen BK325.out 0
    have hfz24_1:=blk_frozen BK325.out 1
    obtain⟨Ao25,co25,eo25⟩:=Kd.V_slice HO_326000.out
    subst eo25
    try go_wp2_with (first |((with_reducible refine gate_callee (f:=44) rfl ?_);refine goesL_ (some 10) rfl rfl Tryz.func44 (by kernel_rfl) rfl #[.agg #[.slice Ao25 x326000_1.length co25]] rfl zl ?_;(with_reducible refine(num_size_zero.calls _ _ x326000_1 false _ ?side1 ?side2 A6.out).mono ?_);(case side1=>exact zC (Kd.V_reads' HO_326000.out).2.2);(case side2=>exact(Kd.V_reads' HO_326000.out).2.1);rintro e w26 ⟨rfl,hb⟩;refine⟨_,rfl,?_⟩;replace HO_325000:=vb HO_325000 hb;replace HO_326000:=vb HO_326000 hb;replace BK324:=kb BK324 hb;replace BK325:=kb BK325 hb;replace BK326:=kb BK326 hb;replace HB:=am (below_step zb hb);(try clear hb);have hnb27:=NB324_326.out;have hnc27:=NB326_324.out;have hcz28_0 : w26.cell? ⟨gb324,0,none⟩ = some (u325000):=(blk_cell BK324.out 0).trans rfl;have hcz28_1 : w26.cell? ⟨gb324,1,none⟩ = some (.bool x325001_1):=(blk_cell BK324.out 1).trans rfl;have hfz28_0:=blk_frozen BK324.out 0;have hfz28_1:=blk_frozen BK324.out 1;have hcz29_0 : w26.cell? ⟨gb325,0,none⟩ = some (.slice Ao25 x326000_1.length co25):=(blk_cell BK325.out 0).trans rfl;have hcz29_1 : w26.cell? ⟨gb325,1,none⟩ = some (.bool x326001_1):=(blk_cell BK325.out 1).trans rfl;have hfz29_0:=blk_frozen BK325.out 0;have hfz29_1:=blk_frozen BK325.out 1;obtain⟨Ao30,co30,eo30⟩:=Kd.V_slice HO_325000.out;subst eo30) |((with_reducible refine gate_callee (f:=45) rfl ?_);refine goesL_ (some 19) rfl rfl Tryz.func45 (by kernel_rfl) rfl #[.slice Ao30 x325000_1.length co30,.slice Ao25 x326000_1.length co25] rfl zl ?_;(with_reducible refine(nat_DivMod.calls k1 _ _ x325000_1 _ _ x326000_1 t332 t333 t334 _ ?side1 ?side2 ?side3 ?side4 A20.out).mono ?_);(case side1=>exact zC (Kd.V_reads' HO_325000.out).2.2);(case side2=>exact(Kd.V_reads' HO_325000.out).2.1);(case side3=>exact zC (Kd.V_reads' HO_326000.out).2.2);(case side4=>exact(Kd.V_reads' HO_326000.out).2.1);rintro e w31 ⟨v335,v337,rfl,ho0,ho1,hb⟩;refine⟨_,rfl,?_⟩;replace HO_325000:=am (Kd.V_mono (Kd.V_told (Kd.V_told (Kd.V_old (zV HO_325000.out) hb) (Kd.R_base ho0)) (Kd.R_base ho1)) (fun _ h_=>h_.1));replace HO_326000:=am (Kd.V_mono (Kd.V_told (Kd.V_told (Kd.V_old (zV HO_326000.out) hb) (Kd.R_base ho0)) (Kd.R_base ho1)) (fun _ h_=>h_.1));have HO336:=am (Kd.R_lower (Kd.R_newM (M:=fun k_=>(w.heap.size≤k_)) ho0 (below_size zb) (fun k_ h_=>h_)) (below_size zb));have HO338:=am (Kd.R_lower (Kd.R_newM (M:=fun k_=>(w.heap.size≤k_)) ho1 (below_size zb) (fun k_ h_=>h_)) (below_size zb));replace BK324:=kb BK324 hb;replace BK325:=kb BK325 hb;replace BK326:=kb BK326 hb;replace HB:=am (below_step zb hb);(try clear hb);(try clear ho0);(try clear ho1)))
    replace HO_325000:=am (Kd.V_drew HO_325000.out)
    replace HO_326000:=am (Kd.V_drew HO_326000.out)
    replace HO336:=am (Kd.R_drew HO336.out)
    replace HO338:=am (Kd.R_drew HO338.out)
    replace BK324:=am (blk_drew BK324.out)
    replace BK325:=am (blk_drew BK325.out)
    replace BK326:=am (blk_drew BK326.out)
    replace HB:=am (below_drew1 HB.out)
    obtain⟨Ao33,co33,eo33⟩:=Kd.R_slice HO338.out
    (first | subst eo33 |(injection eo33 with f1_ f2_ f3_;have f4_:=f1_.symm;have f5_:=f3_.symm;clear f1_ f2_ f3_;subst f4_;subst f5_))
    refine start_ (n:=5) (S:=fun w'=>w'.cell? ⟨gb325,0,none⟩ = some (.slice Ao25 x326000_1.length co25)∧w'.cell? ⟨gb325,1,none⟩ = some (.bool x326001_1)) (ds:=[4]) #[ff,ff,ff,ff,ff] (by kernel_rfl) rfl rfl ⟨(blk_cell BK325.out 0).trans rfl,(blk_cell BK325.out 1).trans rfl⟩ (fun hHeld=>?_)
    generalize w31.drew = w32 at HO_325000 HO_326000 HO336 HO338 BK324 BK325 BK326 HB hHeld ⊢
    refine pu (i:=1) (N:=some 24) #[ff,tt,ff,ff,ff] (by kernel_rfl) ?_
    refine take_ (i:=0) (N:=some 23) (v:=?_) (a':=?_) #[tt,tt,ff,ff,ff] rfl rfl (by kernel_rfl) (fun _ _ _ h=>h) (Or.inl ⟨by rfl,?_⟩) hHeld ?_ ?_
    rotate_left
    ·rintro w' ⟨s0,s1⟩
     go_simp
     with_reducible rfl
    rotate_left
    ·simp only [Act.put,sA,sZ,sS,i64_w,i32_w]
     rfl
    refine one_ (i:=2) (N:=some 25) #[tt,tt,tt,ff,ff] rfl rfl (by kernel_rfl) (by decide) (fun K hK=>?_)
    refine goes_ Tryz.func29 (by kernel_rfl) rfl #[.slice Ao33 t333.length co33,.bool false] (by rfl) rfl rfl zl ?_
    with_reducible refine(num_made.calls k1 _ _ t333 false t339 t342 _ ?side1 ?side2 A21.out).mono ?_
    (case side1=>exact zC (Kd.R_reads' HO338.out).2.2)
    (case side2=>exact(Kd.R_reads' HO338.out).2.1)
    rintro e w34 ⟨v340,rfl,ho0,hb⟩
    refine⟨_,rfl,?_⟩
    replace HO_325000:=ve HO_325000 (Kd.R_base ho0) hb
    replace HO_326000:=ve HO_326000 (Kd.R_base ho0) hb
    have HO341:=am (Kd.R_lower (Kd.R_new' (Kd.R_new' (Kd.R_newM (M:=fun k_=>(w.heap.size≤k_)) ho0 (below_size zb) (fun k_ h_=>h_)) (Kd.R_lt (zR HO336.out))) (Kd.R_lt (zR HO338.out))) (below_size zb))
    replace HO336:=re HO336 (Kd.R_base ho0) hb
    replace HO338:=re HO338 (Kd.R_base ho0) hb
    replace BK324:=kb BK324 hb
    replace BK325:=kb BK325 hb
    replace BK326:=kb BK326 hb
    replace HB:=am (below_step zb hb)
    (try clear hb)
    (try clear hb2)
    (try clear hk)
    (try clear hi)
    (try clear ho0)
    obtain⟨Ao37,co37,eo37⟩:=Kd.R_slice HO341.out
    (first | subst eo37 |(injection eo37 with f1_ f2_ f3_;have f4_:=f1_.symm;have f5_:=f3_.symm;clear f1_ f2_ f3_;subst f4_;subst f5_))
    refine hK.out _ _ ⟨(blk_cell BK325.out 0).trans rfl,(blk_cell BK325.out 1).trans rfl⟩ (fun hHeld=>?_)
    clear hK K
    refine norm_ (a':=?_) ?_ ?_
    rotate_left
    ·show Act.put _ (some 25) _ = _
     simp only [Act.put,sA,sZ,sS,i64_w,i32_w]
     rfl
    refine one_ (i:=3) (N:=none) #[tt,tt,tt,tt,ff] rfl rfl (by kernel_rfl) (by decide) (fun K hK=>?_)
    have hs35 : w34.cell? ⟨gb324,0,none⟩ = some (.slice Ao30 x325000_1.length co30):=(blk_cell BK324.out 0).trans rfl
    have hfs35:=blk_frozen BK324.out 0
    have hns35_1:=NB325_324.out
    have hns35_2:=NB326_324.out
    have hms35_1:=NB324_325.out
    have hms35_2:=NB324_326.out
    have hs36 : w34.cell? ⟨gb324,1,none⟩ = some (.bool x325001_1):=(blk_cell BK324.out 1).trans rfl
    have hfs36:=blk_frozen BK324.out 1
    have hns36_1:=NB325_324.out
    have hns36_2:=NB326_324.out
    have hms36_1:=NB324_325.out
    have hms36_2:=NB324_326.out
    refine skip_ (w1:=?_) (by rfl) rfl ?_ ?_
    rotate_left
    ·go_simp
     rfl
    refine hK.out _ _ ⟨((cell_far (p:=⟨gb324,_,none⟩) NB325_324.out _).trans (((cell_far (p:=⟨gb324,_,none⟩) NB325_324.out _).trans (hHeld.1)))),((cell_far (p:=⟨gb324,_,none⟩) NB325_324.out _).trans (((cell_far (p:=⟨gb324,_,none⟩) NB325_324.out _).trans (hHeld.2))))⟩ (fun hHeld=>?_)
    clear hK K
    refine last_ (i:=4) (N:=none) #[tt,tt,tt,tt,tt] rfl rfl (by kernel_rfl) (by decide) (fun K hK=>?_)
    have hs38 : w34.cell? ⟨gb325,0,none⟩ = some (.slice Ao25 x326000_1.length co25):=(blk_cell BK325.out 0).trans rfl
    have hfs38:=blk_frozen BK325.out 0
    have hns38_0:=NB324_325.out
    have hns38_2:=NB326_325.out
    have hms38_0:=NB325_324.out
    have hms38_2:=NB325_326.out
    have hs39 : w34.cell? ⟨gb325,1,none⟩ = some (.bool x326001_1):=(blk_cell BK325.out 1).trans rfl
    have hfs39:=blk_frozen BK325.out 1
    have hns39_0:=NB324_325.out
    have hns39_2:=NB326_325.out
    have hms39_0:=NB325_324.out
    have hms39_2:=NB325_326.out
    refine skip_ (w1:=?_) (by rfl) rfl ?_ ?_
    rotate_left
    ·go_simp
     rfl
    refine hK.out _ _ ?_
    clear hK K
    refine done_ (by kernel_rfl) ?_
    try go_wp2
    go_roundg k1
    case measure=>have:=HK1.out;omega
    case rel=>exact⟨(x326000_1),(x326001_1),(t339),(t342),(.slice Ao25 x326000_1.length co25),(.slice Ao37 t339.length co37),H',⟨by have:=HK1.out;omega⟩,⟨by refine zV ?_;exact Kd.V_mono (Kd.V_far (p:=⟨gb325,1,none⟩) (Kd.V_far (p:=⟨gb325,0,none⟩) (Kd.V_far (p:=⟨gb324,1,none⟩) (Kd.V_far (p:=⟨gb324,0,none⟩) (Kd.V_mono (Kd.V_mono HO_326000.out (fun k_ hk=>(⟨hk,hk.1.1.1.2.1⟩ : _∧k_≠gb324))) (fun k_ hk=>(⟨hk,hk.1.1.1.1.2.2.1⟩ : _∧k_≠gb325))) (fun _ hk=>hk.1.2) (.slice Ao25 x326000_1.length co25)) (fun _ hk=>hk.1.2) (.bool x326001_1)) (fun _ hk=>hk.2) (.slice Ao37 t339.length co37)) (fun _ hk=>hk.2) (.bool t342)) (fun _ hk=>⟨hk.1.1.1.1.1.1,⟨hk.1.1.1.1.1.2.1,⟨hk.1.1.1.1.1.2.2.1,hk.1.1.1.1.1.2.2.2⟩⟩⟩)⟩,⟨Kd.V_mono (Kd.R_V (by refine zR ?_;exact Kd.R_mono (Kd.R_far (p:=⟨gb325,1,none⟩) (Kd.R_far (p:=⟨gb325,0,none⟩) (Kd.R_far (p:=⟨gb324,1,none⟩) (Kd.R_far (p:=⟨gb324,0,none⟩) (Kd.R_types (Kd.R_types (Kd.R_types (Kd.R_types (Kd.R_types HO341.out BK324.out (by decide)) BK325.out (by decide)) BK326.out (by decide)) BK324.out (by decide)) BK325.out (by decide)) (fun _ hk=>hk.1.2) (.slice Ao25 x326000_1.length co25)) (fun _ hk=>hk.1.2) (.bool x326001_1)) (fun _ hk=>hk.2) (.slice Ao37 t339.length co37)) (fun _ hk=>hk.2) (.bool t342)) (fun _ hk=>(And.intro hk.1.1.1.1.1.1.1.1 (And.intro hk.1.1.1.1.2 (And.intro hk.1.1.1.2 hk.1.1.2)))))) (fun k_ hk=>by first | exact⟨(.inr (hk.1)),hk.2⟩ | exact(.inr (hk)))⟩,⟨by refine zk ?_;refine blk_far ?_ NB324_325.out _;refine zk ?_;refine blk_far ?_ NB324_325.out _;refine zk ?_;refine blk_put (cs:=#[.slice Ao25 x326000_1.length co25,.bool x325001_1]) ?_ 1 _ rfl;refine zk ?_;refine blk_put (cs:=#[.slice Ao30 x325000_1.length co30,.bool x325001_1]) ?_ 0 _ rfl;refine zk ?_;exact BK324.out⟩,⟨by refine zk ?_;refine blk_put (cs:=#[.slice Ao37 t339.length co37,.bool x326001_1]) ?_ 1 _ rfl;refine zk ?_;refine blk_put (cs:=#[.slice Ao25 x326000_1.length co25,.bool x326001_1]) ?_ 0 _ rfl;refine zk ?_;refine blk_far ?_ NB325_324.out _;refine zk ?_;refine blk_far ?_ NB325_324.out _;refine zk ?_;exact BK325.out⟩,⟨by refine zk ?_;refine blk_far ?_ NB326_325.out _;refine zk ?_;refine blk_far ?_ NB326_325.out _;refine zk ?_;refine blk_far ?_ NB326_324.out _;refine zk ?_;refine blk_far ?_ NB326_324.out _;refine zk ?_;exact BK326.out⟩,⟨zb⟩⟩

/-! ### num_together_at_num_Gcd_1: function 162 -/
def num_together_at_num_Gcd_1.l0 : Nat→List (S25)→Int→Int→List Int→Bool→Option (Bool×List Int)
 | 0,_,_,_,_,_=>none
 | k + 1,x9,x10,x11,x344000,x344001=>if x11 < x10 then(if 0≤x11 then(if x11 < (x9.length : Int) then((num_of.f k ((rd_T25 x9 x11).f0) ((rd_T25 x9 x11).f1)).bind fun bt347=>((num_Gcd_1.f k x344000 x344001 bt347.1 bt347.2).bind fun bt351=>(num_together_at_num_Gcd_1.l0 k x9 x10 (wrap64 (x11 + 1)) bt351.1 bt351.2))) else(none)) else(none)) else((num_number_out.f x344000 x344001).bind fun bt355=>(some (bt355.1,bt355.2)))
def num_together_at_num_Gcd_1.f (k : Nat) (l0_0 : List Int) (a0_1 : Bool)  (l2 : List (S25)) : Option (Bool×List Int):=num_together_at_num_Gcd_1.l0 k l2 (l2.length : Int) 0 l0_0 a0_1
theorem num_together_at_num_Gcd_1.calls (k : Nat) (P0_0_ : Nat→Prop) (A0_0 : Option Addr) (c0_0 : Nat) (l0_0 : List Int) (a0_1 : Bool)  (A2 : Option Addr) (c2 : Nat) (l2 : List (S25)) (r1 : Bool) (r2 : List Int) (w : World) (hs0_0 : Kd.V (Kd.int .u32) 60 w w.heap.size (fun k_=>P0_0_ k_) (.slice A0_0 l0_0.length c0_0) l0_0) (hr2 : Kd.C k25 w A2 l2.length l2) (hc2 : l2.length≤c2) (h : num_together_at_num_Gcd_1.f k l0_0 a0_1 l2 = some (r1,r2)) :
  Calls Tryz.prog 37 #[.agg #[.slice A0_0 l0_0.length c0_0,.bool a0_1],.func (.func 43) #[] #[],.slice A2 l2.length c2] w fun e w'=>∃ v1_ : Value,e = .returned (.agg #[.bool r1,v1_])∧Kd.V (Kd.int .u32) 60 w' w.heap.size (fun k_=>(P0_0_ k_∨w.heap.size≤k_)) v1_ r2∧Below w.heap.size w w':=by
 have hu54:=Tryz.underlying54
 have hu25:=Tryz.underlying25
 have HO0_0:=am (show Kd.V (Kd.int .u32) 60 w w.heap.size (fun k_=>(P0_0_ k_∨w.heap.size≤k_)) (.slice A0_0 l0_0.length c0_0) l0_0 from Kd.V_mono hs0_0 (fun k_ hk=>.inl hk))
 have HR2:=am hr2
 have HC2:=am hc2
 clear hr2 hc2
 have HB:=am (Below.refl w.heap.size w)
 have H : (num_together_at_num_Gcd_1.l0 k l2 (l2.length : Int) 0 l0_0 a0_1) = some (r1,r2):=h
 clear h
 have H':=am H
 clear H
 go_enter Tryz.func37,Tryz.ntmps37
 go_wp2_with (first |((with_reducible refine gate_dst (N:=3) rfl ?_);refine box_event ?hg (N:=3) ?hd (cs:=#[.slice A0_0 l0_0.length c0_0,.bool a0_1]) (t:=54) ?hr ?_;(case hd=>rfl);(case hg=>rfl);(case hr=>exact zh);intro gb343 hg w4 hbox hb;replace HO0_0:=vB gb343 HO0_0 hg hb;have BK343:=am (hbox);have GW343:=gw w hg;have GE343:=gw w hg;replace HB:=am (below_step zb hb);clear hb hbox hg) |((with_reducible refine gate_dst (N:=6) rfl ?_);refine box_event ?hg (N:=6) ?hd (cs:=#[.bool false,.slice none 0 0]) (t:=25) ?hr ?_;(case hd=>rfl);(case hg=>rfl);(case hr=>exact zh);intro gb344 hg w5 hbox hb;replace HO0_0:=vB gb344 HO0_0 hg hb;have BK344:=am (hbox);have GW344:=gw w hg;have GE344:=gw w hg;replace HB:=am (below_step zb hb);have NB343_344:=nl BK343 hg;have NB344_343:=nr BK343 hg;replace BK343:=kb BK343 hb;clear hb hbox hg))
 go_loopg [11] k (fun kq v11 w'=>∃ (x11_1 : Int) (x344000_1 : List Int) (x344001_1 : Bool) (u344000 : Value),v11 = .int .i64 x11_1∧Aside0 (num_together_at_num_Gcd_1.l0 kq l2 (l2.length : Int) x11_1 x344000_1 x344001_1 = some (r1,r2))∧Aside0 (kq≤k)∧Aside0 (Kd.V (Kd.int .u32) 60 w' w.heap.size (fun k_=>(P0_0_ k_∨w.heap.size≤k_)∧k_≠gb343∧k_≠gb344) u344000 x344000_1)∧Aside0 (w'.heap[gb343]? = some (.cells #[u344000,.bool x344001_1] 54 (0,0)))∧Aside0 (w'.heap[gb344]? = some (.cells #[.bool false,(.slice none 0 0)] 25 (0,0)))∧Aside0 (Below w.heap.size w w'))
 case atStart=>exact⟨(0),(l0_0),(a0_1),(.slice A0_0 l0_0.length c0_0),ze,H',⟨Nat.le_refl _⟩,⟨by refine zV ?_;exact Kd.V_mono HO0_0.out (fun _ hk=>⟨hk.1.1,⟨hk.1.2,hk.2⟩⟩)⟩,⟨zk BK343.out⟩,⟨zk BK344.out⟩,⟨zb⟩⟩
 case round=>
  clear H'
  try clear c2
  try clear p2
  try clear c3
  obtain⟨x11_1,x344000_1,x344001_1,u344000,rfl,HA,HK1,HO_344000,BK343,BK344,HB⟩:=hrel
  cases gk with
  | zero=>exact absurd HA.out (by simp [num_together_at_num_Gcd_1.l0])
  | succ k1=>
   have H:=HA.out
   clear HA
   simp only [num_together_at_num_Gcd_1.l0] at H
   by_cases c6 : x11_1 < (l2.length : Int)
   ·rw [if_pos c6] at H
    have c6b0 : decide (x11_1 < (l2.length : Int)) = true:=decide_eq_true c6
    clear c6
    by_cases c7 : 0≤x11_1
    ·rw [if_pos c7] at H
     have c7b0 : decide (0≤x11_1) = true:=decide_eq_true c7
     clear c7
     by_cases c8 : x11_1 < (l2.length : Int)
     ·rw [if_pos c8] at H
      have c8b0 : decide (x11_1 < (l2.length : Int)) = true:=decide_eq_true c8
      clear c8
      replace H:=Option.bind_eq_some_iff.mp H
      obtain⟨⟨t347,t350⟩,A90,H⟩:=H
      try dsimp only at H
      have A9:=am A90
      clear A90
      replace H:=Option.bind_eq_some_iff.mp H
      obtain⟨⟨t351,t354⟩,A100,H⟩:=H
      try dsimp only at H
      have A10:=am A100
      clear A100
      have H':=am H
      clear H
      have p345 : 0≤(x11_1 : Int):=of_decide_eq_true za
      have q345 : x11_1 < (l2.length : Int):=of_decide_eq_true za
      obtain⟨ad345,A345_1,c345_1,e345,hx345_0,hx345_1,hl345_1,hi345_1⟩:=at_T25 HR2.out x11_1 p345 q345
      cases e345
      replace hx345_0:=(HB.out.cell (World.block_lt_of_cell? w _ hx345_0)).trans hx345_0
      replace hx345_1:=(HB.out.cell (World.block_lt_of_cell? w _ hx345_1)).trans hx345_1
      have HR345_1:=am hi345_1
      have HC345_1:=am hl345_1
      clear hi345_1 hl345_1
      replace p345:=eq_true p345
      replace q345:=eq_true q345
      try go_wp2_with (first |((with_reducible refine gate_dst (N:=8) rfl ?_);refine box_event ?hg (N:=8) ?hd (cs:=#[.bool false,.slice none 0 0]) (t:=25) ?hr ?_;(case hd=>rfl);(case hg=>rfl);(case hr=>exact zh);intro gb346 hg w11 hbox hb;replace HO_344000:=vB gb346 HO_344000 hg hb;have BK346:=am (hbox);have GW346:=gw w hg;have GE346:=gw w hg;replace HB:=am (below_step zb hb);have NB343_346:=nl BK343 hg;have NB346_343:=nr BK343 hg;replace BK343:=kb BK343 hb;have NB344_346:=nl BK344 hg;have NB346_344:=nr BK344 hg;replace BK344:=kb BK344 hb;clear hb hbox hg;have hnb12:=NB346_343.out;have hnc12:=NB343_346.out;have hnb13:=NB346_344.out;have hnc13:=NB344_346.out;have hcz14_0 : w11.cell? ⟨gb346,0,none⟩ = some (.bool false):=(blk_cell BK346.out 0).trans rfl;have hcz14_1 : w11.cell? ⟨gb346,1,none⟩ = some (.slice none 0 0):=(blk_cell BK346.out 1).trans rfl;have hfz14_0:=blk_frozen BK346.out 0;have hfz14_1:=blk_frozen BK346.out 1))
      have n0_ : Aside0 (Kd.V (Kd.int .u32) 60 ((w11.setCell ⟨gb346,0,none⟩ (.bool ((rd_T25 l2 x11_1).f0))).setCell ⟨gb346,1,none⟩ (.slice A345_1 ((rd_T25 l2 x11_1).f1).length c345_1)) w.heap.size (fun k_=>(P0_0_ k_∨w.heap.size≤k_)∧k_≠gb343∧k_≠gb344∧k_≠gb346) u344000 x344000_1):=⟨by refine zV ?_;exact Kd.V_mono (Kd.V_far (p:=⟨gb346,1,none⟩) (Kd.V_far (p:=⟨gb346,0,none⟩) (Kd.V_mono HO_344000.out (fun k_ hk=>(⟨hk,hk.2⟩ : _∧k_≠gb346))) (fun _ hk=>hk.2) (.bool ((rd_T25 l2 x11_1).f0))) (fun _ hk=>hk.2) (.slice A345_1 ((rd_T25 l2 x11_1).f1).length c345_1)) (fun _ hk=>⟨hk.1.1.1,⟨hk.1.1.2.1,⟨hk.1.1.2.2,hk.1.2⟩⟩⟩)⟩
      have n1_ : Aside0 (((w11.setCell ⟨gb346,0,none⟩ (.bool ((rd_T25 l2 x11_1).f0))).setCell ⟨gb346,1,none⟩ (.slice A345_1 ((rd_T25 l2 x11_1).f1).length c345_1)).heap[gb343]? = some (.cells #[u344000,.bool x344001_1] 54 (0,0))):=⟨by refine zk ?_;refine blk_far ?_ NB343_346.out _;refine zk ?_;refine blk_far ?_ NB343_346.out _;refine zk ?_;exact BK343.out⟩
      have n2_ : Aside0 (((w11.setCell ⟨gb346,0,none⟩ (.bool ((rd_T25 l2 x11_1).f0))).setCell ⟨gb346,1,none⟩ (.slice A345_1 ((rd_T25 l2 x11_1).f1).length c345_1)).heap[gb344]? = some (.cells #[.bool false,.slice none 0 0] 25 (0,0))):=⟨by refine zk ?_;refine blk_far ?_ NB344_346.out _;refine zk ?_;refine blk_far ?_ NB344_346.out _;refine zk ?_;exact BK344.out⟩
      have n3_ : Aside0 (((w11.setCell ⟨gb346,0,none⟩ (.bool ((rd_T25 l2 x11_1).f0))).setCell ⟨gb346,1,none⟩ (.slice A345_1 ((rd_T25 l2 x11_1).f1).length c345_1)).heap[gb346]? = some (.cells #[.bool ((rd_T25 l2 x11_1).f0),.slice A345_1 ((rd_T25 l2 x11_1).f1).length c345_1] 25 (0,0))):=⟨by refine zk ?_;refine blk_put (cs:=#[.bool ((rd_T25 l2 x11_1).f0),.slice none 0 0]) ?_ 1 _ rfl;refine zk ?_;refine blk_put (cs:=#[.bool false,.slice none 0 0]) ?_ 0 _ rfl;refine zk ?_;exact BK346.out⟩
      have n4_ : Aside0 (Below w.heap.size w ((w11.setCell ⟨gb346,0,none⟩ (.bool ((rd_T25 l2 x11_1).f0))).setCell ⟨gb346,1,none⟩ (.slice A345_1 ((rd_T25 l2 x11_1).f1).length c345_1))):=⟨zb⟩
      (try clear HO_344000)
      (try clear BK343)
      (try clear BK344)
      (try clear BK346)
      (try clear HB)
      generalize ((w11.setCell ⟨gb346,0,none⟩ (.bool ((rd_T25 l2 x11_1).f0))).setCell ⟨gb346,1,none⟩ (.slice A345_1 ((rd_T25 l2 x11_1).f1).length c345_1)) = w15 at n0_ n1_ n2_ n3_ n4_ ⊢
      have HO_344000:=n0_
      have BK343:=n1_
      have BK344:=n2_
      have BK346:=n3_
      have HB:=n4_
      clear n0_ n1_ n2_ n3_ n4_
      replace HO_344000:=am (Kd.V_drew HO_344000.out)
      replace BK343:=am (blk_drew BK343.out)
      replace BK344:=am (blk_drew BK344.out)
      replace BK346:=am (blk_drew BK346.out)
      replace HB:=am (below_drew1 HB.out)
      refine start_ (n:=6) (S:=fun w'=>w'.cell? ⟨gb343,0,none⟩ = some (u344000)∧w'.cell? ⟨gb343,1,none⟩ = some (.bool x344001_1)∧w'.cell? ⟨gb346,0,none⟩ = some (.bool ((rd_T25 l2 x11_1).f0))∧w'.cell? ⟨gb346,1,none⟩ = some (.slice A345_1 ((rd_T25 l2 x11_1).f1).length c345_1)) (ds:=[5]) #[ff,ff,ff,ff,ff,ff] (by kernel_rfl) rfl rfl ⟨(blk_cell BK343.out 0).trans rfl,(blk_cell BK343.out 1).trans rfl,(blk_cell BK346.out 0).trans rfl,(blk_cell BK346.out 1).trans rfl⟩ (fun hHeld=>?_)
      generalize w15.drew = w16 at HO_344000 BK343 BK344 BK346 HB hHeld ⊢
      refine pu (i:=0) (N:=some 15) #[tt,ff,ff,ff,ff,ff] (by kernel_rfl) ?_
      refine take_ (i:=1) (N:=some 16) (v:=?_) (a':=?_) #[tt,tt,ff,ff,ff,ff] rfl rfl (by kernel_rfl) (fun _ _ _ h=>h) (Or.inl ⟨by rfl,?_⟩) hHeld ?_ ?_
      rotate_left
      ·rintro w' ⟨s0,s1,s2,s3⟩
       go_simp
       with_reducible rfl
      rotate_left
      ·simp only [Act.put,sA,sZ,sS,i64_w,i32_w]
       rfl
      refine take_ (i:=2) (N:=some 17) (v:=?_) (a':=?_) #[tt,tt,tt,ff,ff,ff] rfl rfl (by kernel_rfl) (fun _ _ _ h=>h) (Or.inl ⟨by rfl,?_⟩) hHeld ?_ ?_
      rotate_left
      ·rintro w' ⟨s0,s1,s2,s3⟩
       go_simp
       with_reducible rfl
      rotate_left
      ·simp only [Act.put,sA,sZ,sS,i64_w,i32_w]
       rfl
      refine one_ (i:=3) (N:=some 18) #[tt,tt,tt,tt,ff,ff] rfl rfl (by kernel_rfl) (by decide) (fun K hK=>?_)
      refine goesV_ Tryz.func49 (by kernel_rfl) rfl #[.agg #[.bool ((rd_T25 l2 x11_1).f0),.slice A345_1 ((rd_T25 l2 x11_1).f1).length c345_1]] (by rfl) rfl ⟨_,rfl,rfl⟩ zl ?_
      with_reducible refine(num_of.calls k1 ((rd_T25 l2 x11_1).f0) _ _ ((rd_T25 l2 x11_1).f1) t347 t350 _ ?side1 ?side2 A9.out).mono ?_
      (case side1=>repeat (first | exact(Kd.C_below HR345_1.out HB.out) |(with_reducible refine Kd.C_alloc ?_ _) |(with_reducible refine Kd.C_drewN ?_ _) |(with_reducible refine Kd.C_drew ?_)))
      (case side2=>exact HC345_1.out)
      rintro e w17 ⟨v348,rfl,ho0,hb⟩
      refine⟨_,rfl,?_⟩
      replace HO_344000:=ve HO_344000 (Kd.R_base ho0) hb
      have HO349:=am (Kd.R_lower (Kd.R_newM (M:=fun k_=>(w.heap.size≤k_)) ho0 (below_size zb) (fun k_ h_=>h_)) (below_size zb))
      replace BK343:=kb BK343 hb
      replace BK344:=kb BK344 hb
      replace BK346:=kb BK346 hb
      replace HB:=am (below_step zb hb)
      (try clear hb)
      (try clear hb2)
      (try clear hk)
      (try clear hi)
      (try clear ho0)
      obtain⟨Ao18,co18,eo18⟩:=Kd.V_slice HO_344000.out
      (first | subst eo18 |(injection eo18 with f1_ f2_ f3_;have f4_:=f1_.symm;have f5_:=f3_.symm;clear f1_ f2_ f3_;subst f4_;subst f5_))
      obtain⟨Ao19,co19,eo19⟩:=Kd.R_slice HO349.out
      (first | subst eo19 |(injection eo19 with f1_ f2_ f3_;have f4_:=f1_.symm;have f5_:=f3_.symm;clear f1_ f2_ f3_;subst f4_;subst f5_))
      refine hK.out _ _ ⟨(blk_cell BK343.out 0).trans rfl,(blk_cell BK343.out 1).trans rfl,(blk_cell BK346.out 0).trans rfl,(blk_cell BK346.out 1).trans rfl⟩ (fun hHeld=>?_)
      clear hK K
      refine norm_ (a':=?_) ?_ ?_
      rotate_left
      ·show Act.put _ (some 18) _ = _
       simp only [Act.put,sA,sZ,sS,i64_w,i32_w]
       rfl
      refine one_ (i:=4) (N:=some 19) #[tt,tt,tt,tt,tt,ff] rfl rfl (by kernel_rfl) (by decide) (fun K hK=>?_)
      refine goesV_ Tryz.func43 (by kernel_rfl) rfl #[.agg #[.slice Ao18 x344000_1.length co18,.bool x344001_1],.agg #[.slice Ao19 t347.length co19,.bool t350]] (by rfl) rfl ⟨_,rfl,rfl⟩ zl ?_
      with_reducible refine(num_Gcd_1.calls k1 (fun k_=>(((P0_0_ k_∨w.heap.size≤k_)∧(k_≠gb343∧(k_≠gb344∧k_≠gb346)))∧some k_≠(.slice Ao19 t347.length co19 : Value).ownBlock)) _ _ x344000_1 x344001_1 (fun k_=>some k_ = (.slice Ao19 t347.length co19 : Value).ownBlock) _ _ t347 t350 t351 t354 _ ?side1 ?side2 A10.out).mono ?_
      (case side1=>exact HO_344000.out)
      (case side2=>exact Kd.R_V (Kd.R_tight rfl (Kd.R_types (Kd.R_types (Kd.R_types (HO349.out) BK343.out (by decide)) BK344.out (by decide)) BK346.out (by decide))))
      rintro e w20 ⟨v352,rfl,ho0,hb⟩
      refine⟨_,rfl,?_⟩
      replace HO_344000:=ve HO_344000 (Kd.R_base ho0) hb
      have HO353:=am (Kd.R_lower (Kd.R_new' (Kd.R_newM (M:=fun k_=>(w.heap.size≤k_)) (Kd.R_mono (ok':=fun k_=>True) ho0 (fun _ hk_=>trivial)) (below_size zb) (fun k_ h_=>h_)) (Kd.R_lt (zR HO349.out))) (below_size zb))
      replace HO349:=re HO349 (Kd.R_base ho0) hb
      replace BK343:=kb BK343 hb
      replace BK344:=kb BK344 hb
      replace BK346:=kb BK346 hb
      replace HB:=am (below_step zb hb)
      (try clear hb)
      (try clear hb2)
      (try clear hk)
      (try clear hi)
      (try clear ho0)
      obtain⟨Ao21,co21,eo21⟩:=Kd.R_slice HO353.out
      (first | subst eo21 |(injection eo21 with f1_ f2_ f3_;have f4_:=f1_.symm;have f5_:=f3_.symm;clear f1_ f2_ f3_;subst f4_;subst f5_))
      refine hK.out _ _ ⟨(blk_cell BK343.out 0).trans rfl,(blk_cell BK343.out 1).trans rfl,(blk_cell BK346.out 0).trans rfl,(blk_cell BK346.out 1).trans rfl⟩ (fun hHeld=>?_)
      clear hK K
      refine norm_ (a':=?_) ?_ ?_
      rotate_left
      ·show Act.put _ (some 19) _ = _
       simp only [Act.put,sA,sZ,sS,i64_w,i32_w]
       rfl
      refine last_ (i:=5) (N:=none) #[tt,tt,tt,tt,tt,tt] rfl rfl (by kernel_rfl) (by decide) (fun K hK=>?_)
      have hs22 : w20.cell? ⟨gb343,0,none⟩ = some (.slice Ao18 x344000_1.length co18):=(blk_cell BK343.out 0).trans rfl
      have hfs22:=blk_frozen BK343.out 0
      have hns22_1:=NB344_343.out
      have hns22_2:=NB346_343.out
      have hms22_1:=NB343_344.out
      have hms22_2:=NB343_346.out
      have hs23 : w20.cell? ⟨gb343,1,none⟩ = some (.bool x344001_1):=(blk_cell BK343.out 1).trans rfl
      have hfs23:=blk_frozen BK343.out 1
      have hns23_1:=NB344_343.out
      have hns23_2:=NB346_343.out
      have hms23_1:=NB343_344.out
      have hms23_2:=NB343_346.out
      refine skip_ (w1:=?_) (by rfl) rfl ?_ ?_
      rotate_left
      ·go_simp
       rfl
      refine hK.out _ _ ?_
      clear hK K
      refine done_ (by kernel_rfl) ?_
      try go_wp2
      go_roundg k1
      case measure=>have:=HK1.out;omega
      case rel=>exact⟨(wrap64 (x11_1 + 1)),(t351),(t354),(.slice Ao21 t351.length co21),ze,H',⟨by have:=HK1.out;omega⟩,⟨Kd.V_mono (Kd.R_V (by refine zR ?_;exact Kd.R_mono (Kd.R_far (p:=⟨gb343,1,none⟩) (Kd.R_far (p:=⟨gb343,0,none⟩) (Kd.R_types (Kd.R_types (Kd.R_types HO353.out BK343.out (by decide)) BK344.out (by decide)) BK343.out (by decide)) (fun _ hk=>hk.2) (.slice Ao21 t351.length co21)) (fun _ hk=>hk.2) (.bool t354)) (fun _ hk=>(And.intro hk.1.1.1.1.1 (And.intro hk.1.1.2 hk.1.2))))) (fun k_ hk=>by first | exact⟨(.inr (hk.1)),hk.2⟩ | exact(.inr (hk)))⟩,⟨by refine zk ?_;refine blk_put (cs:=#[.slice Ao21 t351.length co21,.bool x344001_1]) ?_ 1 _ rfl;refine zk ?_;refine blk_put (cs:=#[.slice Ao18 x344000_1.length co18,.bool x344001_1]) ?_ 0 _ rfl;refine zk ?_;exact BK343.out⟩,⟨by refine zk ?_;refine blk_far ?_ NB344_343.out _;refine zk ?_;refine blk_far ?_ NB344_343.out _;refine zk ?_;exact BK344.out⟩,⟨zb⟩⟩
     ·rw [if_neg c8] at H
      exact absurd H (by simp)
    ·rw [if_neg c7] at H
     exact absurd H (by simp)
   ·rw [if_neg c6] at H
    have c6b0 : decide (x11_1 < (l2.length : Int)) = false:=decide_eq_false c6
    clear c6
    replace H:=Option.bind_eq_some_iff.mp H
    obtain⟨⟨t355,t356⟩,A240,H⟩:=H
    try dsimp only at H
    have A24:=am A240
    clear A240
    simp only [Option.some.injEq,Prod.mk.injEq] at H
    obtain⟨rfl,rfl⟩:=H
    have hnb25:=NB343_344.out
    have hnc25:=NB344_343.out
    have hcz26_0 : wr.cell? ⟨gb343,0,none⟩ = some (u344000):=(blk_cell BK343.out 0).trans rfl
    have hcz26_1 : wr.cell? ⟨gb343,1,none⟩ = some (.bool x344001_1):=(blk_cell BK343.out 1).trans rfl
    have hfz26_0:=blk_frozen BK343.out 0
    have hfz26_1:=blk_frozen BK343.out 1
    obtain⟨Ao27,co27,eo27⟩:=Kd.V_slice HO_344000.out
    subst eo27
    go_wp2_with (first |((with_reducible refine gate_dst (N:=22) rfl ?_);refine goesLV_ (some 22) rfl rfl Tryz.func30 (by kernel_rfl) rfl #[.agg #[.slice Ao27 x344000_1.length co27,.bool x344001_1]] ⟨_,rfl,rfl⟩ zl ?_;(with_reducible refine(num_number_out.calls (fun k_=>((P0_0_ k_∨w.heap.size≤k_)∧(k_≠gb343∧k_≠gb344))) _ _ x344000_1 x344001_1 t355 t356 _ ?side1 A24.out).mono ?_);(case side1=>exact HO_344000.out);rintro e w28 ⟨v357,rfl,ho0,hb⟩;refine⟨_,rfl,?_⟩;replace HO_344000:=vb HO_344000 hb;have HO358:=am (Kd.V_lower (Kd.V_mono (ok':=fun k_=>(P0_0_ k_∨w.heap.size≤k_)∧k_≠gb343∧k_≠gb344) ho0 (fun k_ hk_=>⟨Or.elim hk_ (fun hs_=>hs_.1) (fun hn_=>(.inr (Nat.le_trans (below_size zb) hn_))),Or.elim hk_ (fun hs_=>hs_.2.1) (fun hn_=>(fb BK343 k_ hn_)),Or.elim hk_ (fun hs_=>hs_.2.2) (fun hn_=>(fb BK344 k_ hn_))⟩)) (below_size zb));replace BK343:=kb BK343 hb;replace BK344:=kb BK344 hb;replace HB:=am (below_step zb hb);(try clear hb);(try clear ho0);have hcz29_0 : w28.cell? ⟨gb344,0,none⟩ = some (.bool false):=(blk_cell BK344.out 0).trans rfl;have hcz29_1 : w28.cell? ⟨gb344,1,none⟩ = some (.slice none 0 0):=(blk_cell BK344.out 1).trans rfl;have hfz29_0:=blk_frozen BK344.out 0;have hfz29_1:=blk_frozen BK344.out 1;obtain⟨Ao30,co30,eo30⟩:=Kd.V_slice HO358.out;subst eo30))
    refine bodyPost_ret (results_cell_row rfl _ _ gb344 25 #[.bool t355,.slice Ao30 t356.length co30] (0,0) _ rfl (by refine zk ?_;refine blk_put (cs:=#[.bool t355,.slice none 0 0]) ?_ 1 _ rfl;refine zk ?_;refine blk_put (cs:=#[.bool false,.slice none 0 0]) ?_ 0 _ rfl;refine zk ?_;exact BK344.out) Tryz.underlying25 rfl (by kernel_rfl)) rfl ?_
    exact⟨_,zf,by refine zV ?_;exact Kd.V_mono (Kd.V_far (p:=⟨gb344,1,none⟩) (Kd.V_far (p:=⟨gb344,0,none⟩) (Kd.V_mono HO358.out (fun k_ hk=>(⟨hk,hk.2.2⟩ : _∧k_≠gb344))) (fun _ hk=>hk.2) (.bool t355)) (fun _ hk=>hk.2) (.slice Ao30 t356.length co30)) (fun _ hk=>hk.1.1),zb⟩

/-! ### num_Gcd: function 18 -/
def num_Gcd.f (k : Nat) (l0 : List (S25)) : Option (Bool×List Int):=(num_together_at_num_Gcd_1.f k ([] : List Int) false l0).bind fun bt360=>(some (bt360.1,bt360.2))
theorem num_Gcd.calls (k : Nat) (A0 : Option Addr) (c0 : Nat) (l0 : List (S25)) (r1 : Bool) (r2 : List Int) (w : World) (hr0 : Kd.C k25 w A0 l0.length l0) (hc0 : l0.length≤c0) (h : num_Gcd.f k l0 = some (r1,r2)) :
  Calls Tryz.prog 18 #[.slice A0 l0.length c0] w fun e w'=>∃ v1_ : Value,e = .returned (.agg #[.bool r1,v1_])∧Kd.V (Kd.int .u32) 60 w' w.heap.size (fun k_=>(w.heap.size≤k_)) v1_ r2∧Below w.heap.size w w':=by
 have hu25:=Tryz.underlying25
 have hu54:=Tryz.underlying54
 have HR0:=am hr0
 have HC0:=am hc0
 clear hr0 hc0
 have HB:=am (Below.refl w.heap.size w)
 have H : ((num_together_at_num_Gcd_1.f k ([] : List Int) false l0).bind fun bt360=>(some (bt360.1,bt360.2))) = some (r1,r2):=h
 clear h
 replace H:=Option.bind_eq_some_iff.mp H
 obtain⟨⟨t360,t361⟩,A20,H⟩:=H
 try dsimp only at H
 have A2:=am A20
 clear A20
 simp only [Option.some.injEq,Prod.mk.injEq] at H
 obtain⟨rfl,rfl⟩:=H
 go_enter Tryz.func18,Tryz.ntmps18
 go_wp2_with (first |((with_reducible refine gate_dst (N:=2) rfl ?_);refine box_event ?hg (N:=2) ?hd (cs:=#[.bool false,.slice none 0 0]) (t:=25) ?hr ?_;(case hd=>rfl);(case hg=>rfl);(case hr=>exact zh);intro gb359 hg w3 hbox hb;have BK359:=am (hbox);have GW359:=gw w hg;have GE359:=gw w hg;replace HB:=am (below_step zb hb);clear hb hbox hg) |((with_reducible refine gate_callee (f:=37) rfl ?_);refine goesL_ (some 5) rfl rfl Tryz.func37 (by kernel_rfl) rfl #[.agg #[.slice none 0 0,.bool false],.func (.func 43) #[] #[],.slice A0 l0.length c0] rfl zl ?_;(refine(num_together_at_num_Gcd_1.calls k (fun k_=>False) _ _ ([] : List Int) false  _ _ l0 t360 t361 _ ?side1 ?side2 ?side3 A2.out).mono ?_);(case side1=>exact Kd.V_nil _ _ _ _ _);(case side2=>repeat (first | exact(Kd.C_below HR0.out HB.out) |(with_reducible refine Kd.C_alloc ?_ _) |(with_reducible refine Kd.C_drewN ?_ _) |(with_reducible refine Kd.C_drew ?_)));(case side3=>exact HC0.out);rintro e w4 ⟨v362,rfl,ho0,hb⟩;refine⟨_,rfl,?_⟩;have HO363:=am (Kd.V_lower (Kd.V_mono (ok':=fun k_=>(w.heap.size≤k_)∧k_≠gb359) ho0 (fun k_ hk_=>⟨Or.elim hk_ (fun hs_=>(hs_).elim) (fun hn_=>(Nat.le_trans (below_size zb) hn_)),Or.elim hk_ (fun hs_=>(hs_).elim) (fun hn_=>(fb BK359 k_ hn_))⟩)) (below_size zb));replace BK359:=kb BK359 hb;replace HB:=am (below_step zb hb);(try clear hb);(try clear ho0);have hcz5_0 : w4.cell? ⟨gb359,0,none⟩ = some (.bool false):=(blk_cell BK359.out 0).trans rfl;have hcz5_1 : w4.cell? ⟨gb359,1,none⟩ = some (.slice none 0 0):=(blk_cell BK359.out 1).trans rfl;have hfz5_0:=blk_frozen BK359.out 0;have hfz5_1:=blk_frozen BK359.out 1;obtain⟨Ao6,co6,eo6⟩:=Kd.V_slice HO363.out;subst eo6))
 refine bodyPost_ret (results_cell_row rfl _ _ gb359 25 #[.bool t360,.slice Ao6 t361.length co6] (0,0) _ rfl (by refine zk ?_;refine blk_put (cs:=#[.bool t360,.slice none 0 0]) ?_ 1 _ rfl;refine zk ?_;refine blk_put (cs:=#[.bool false,.slice none 0 0]) ?_ 0 _ rfl;refine zk ?_;exact BK359.out) Tryz.underlying25 rfl (by kernel_rfl)) rfl ?_
 exact⟨_,zf,by refine zV ?_;exact Kd.V_mono (Kd.V_far (p:=⟨gb359,1,none⟩) (Kd.V_far (p:=⟨gb359,0,none⟩) (Kd.V_mono HO363.out (fun k_ hk=>(⟨hk,hk.2⟩ : _∧k_≠gb359))) (fun _ hk=>hk.2) (.bool t360)) (fun _ hk=>hk.2) (.slice Ao6 t361.length co6)) (fun _ hk=>hk.1.1),zb⟩

/-! ### nat_Text: function 51 -/
def nat_txtPad (d : Int) : List UInt8:=Lib.repeatL [48] (9 - (Lib.decDigits d.toNat).length) ++ Lib.decDigits d.toNat
def nat_txtLow (n : List Int) : Nat→List UInt8
 | 0=>[]
 | j + 1=>nat_txtPad (n.getD j 0) ++ nat_txtLow n j
def nat_txt (n : List Int) : List UInt8:=Lib.decDigits (n.getD (n.length - 1) 0).toNat ++ nat_txtLow n (n.length - 1)
def nat_Text.f (k : Nat) (l0 : List Int) : Option ByteArray:=(nat_of.f k l0).bind fun n=>(if n.all (fun d=>decide (0≤d∧d < 1000000000)) = true then(if n.length≤1000000000000000 then(if (nat_txt n).length≤140737488355328 then(some ⟨(nat_txt n).toArray⟩) else(none)) else(none)) else(none))
theorem nat_txt_at {n : List Int} (hn : n.all (fun d=>decide (0≤d∧d < 1000000000)) = true) (j : Nat) : 0≤n.getD j 0∧n.getD j 0 < 1000000000:=by
 rw [List.all_eq_true] at hn
 by_cases hj : j < n.length
 ·have h:=hn (n[j]) (List.getElem_mem hj)
  rw [decide_eq_true_eq] at h
  rw [List.getD_eq_getElem?_getD,List.getElem?_eq_getElem hj]
  exact h
 ·rw [List.getD_eq_getElem?_getD,List.getElem?_eq_none (by omega)]
  simp
theorem nat_at_f (n : List Int) (j d : Nat) (hj : j < n.length) (hd : (d : Int) = n.getD j 0) : nat_digits_at.f n (j : Int) = some (d : Int):=by
 unfold nat_digits_at.f
 rw [if_pos (by omega),if_pos (by omega),if_pos (by omega),hd]
 rfl
theorem nat_top_f (n : List Int) (hl : n.length≤1000000000000000) : nat_digits_top.f n = some (n.getD (n.length - 1) 0):=by
 have hw : wrap64 ((n.length : Int) - 1) = (n.length : Int) - 1:=by unfold wrap64;omega
 unfold nat_digits_top.f
 rw [hw]
 unfold nat_digits_at.f
 by_cases h0 : n.length = 0
 ·rw [if_neg (by omega),List.eq_nil_of_length_eq_zero h0]
  rfl
 ·rw [if_pos (by omega),if_pos (by omega),if_pos (by omega)]
  simp only [Option.bind_some]
  rw [show((n.length : Int) - 1) = ((n.length - 1 : Nat) : Int) from by omega]
  rfl
theorem nat_nd : ∀ (k u : Nat),u < 10 ^ (k + 1)→Lib.nDigits u≤k + 1
 | 0,u,h=>by rw [Lib.nDigits_small (by simpa using h)];omega
 | k + 1,u,h=>by
  by_cases hu : u < 10
  ·rw [Lib.nDigits_small hu];omega
  ·rw [Lib.nDigits_big hu]
   have:=nat_nd k (u / 10) (by rw [Nat.pow_succ] at h;omega)
   omega
theorem nat_dec9 (u : Nat) (h : u < 1000000000) : (Lib.decDigits u).length≤9:=by
 rw [Lib.decDigits_length]
 exact nat_nd 8 u (by simpa using h)
/-- What the walk of Text holds: the number's own block, the builder's, what lay there before. -/
structure nat_TI (w1 W : World) (gn : Nat) (A : Option Addr) (c : Nat) (n : List Int) (l : List UInt8) : Prop where
 blk : W.heap[gn]? = some (.cells #[.slice A n.length c] 83 (0,0))
 bld : Lib.IsBuilder 103 5 (gn + 1) (gn + 1) (Lib.byteCells l) W
 bel : Below gn w1 W
 lt : gn + 1≤W.heap.size
theorem nat_TI.step {w1 W W' : World} {gn : Nat} {A : Option Addr} {c : Nat} {n : List Int} {l : List UInt8} (h : nat_TI w1 W gn A c n l) (hb : Below W.heap.size W W') : nat_TI w1 W' gn A c n l where
 blk:=by rw [hb.block gn (by have:=h.lt;omega)];exact h.blk
 bld:=by
  have hs : ∀ p,Lib.BuilderAt 103 5 (gn + 1) (gn + 1) p (Lib.byteCells l) W→Lib.BuilderAt 103 5 (gn + 1) (gn + 1) p (Lib.byteCells l) W':=fun p hp=>by
   have hlt:=hp.lt
   obtain⟨h1,v,h2,h3,h4⟩:=hp
   exact⟨h1,v,by rw [hb.block _ hlt];exact h2,pw_own_below h3 hb,h4⟩
  rcases h.bld with hp | hp
  ·exact .inl (hs _ hp)
  ·exact .inr (hs _ hp)
 bel:=h.bel.trans (hb.mono (by have:=h.lt;omega))
 lt:=by have:=hb.size;have:=h.lt;omega
theorem nat_TI.cell {w1 W : World} {gn : Nat} {A : Option Addr} {c : Nat} {n : List Int} {l : List UInt8} (h : nat_TI w1 W gn A c n l) : W.cell? ⟨gn,0,none⟩ = some (.slice A n.length c):=by
 simp [World.cell?,h.blk]
theorem nat_TI.write {w1 W W' : World} {gn : Nat} {A : Option Addr} {c : Nat} {n : List Int} {l : List UInt8} (h : nat_TI w1 W gn A c n l) {s : ByteArray} (hp : Lib.BuilderAt 103 5 (gn + 1) (gn + 1) (.pointer (some ⟨gn + 1,0,none⟩)) (Lib.byteCells l ++ Lib.strCells s) W'∧Below (gn + 1) W W') : nat_TI w1 W' gn A c n (l ++ s.data.toList) where
 blk:=by rw [hp.2.block gn (by omega)];exact h.blk
 bld:=by rw [Lib.byteCells_append,← Lib.strCells_eq];exact .inr hp.1
 bel:=h.bel.trans (hp.2.mono (by omega))
 lt:=by have:=hp.2.size;have:=h.lt;omega
theorem nat_below_drew (w : World) (k : Nat) : Below w.heap.size w (w.drewN k):=by
 exact pw_below_drewN (Below.refl _ _) _
theorem nat_rep_len (j : Nat) : (Lib.repeatL [48] j).length = j:=by
 induction j with
 | zero=>rfl
 | succ j ih=>rw [Lib.repeatL,List.length_append,ih];simp;omega
theorem nat_Text.calls (k : Nat) (A0 : Option Addr) (c0 : Nat) (l0 : List Int) (r : ByteArray) (w : World) (hr0 : Kd.C (Kd.int .u32) w A0 l0.length l0) (hc0 : l0.length≤c0) (hG : GW w) (h : nat_Text.f k l0 = some r) :
  Calls Tryz.prog 51 #[.slice A0 l0.length c0] w fun e w'=>e = .returned (.string r)∧Below w.heap.size w w':=by
 unfold nat_Text.f at h
 obtain⟨n,hn,h⟩:=Option.bind_eq_some_iff.1 h
 by_cases hd : n.all (fun d=>decide (0≤d∧d < 1000000000)) = true
 ·rw [if_pos hd] at h
  by_cases hl : n.length≤1000000000000000
  ·rw [if_pos hl] at h
   by_cases ht : (nat_txt n).length≤140737488355328
   ·rw [if_pos ht] at h
    obtain rfl:=Option.some.inj h
    clear h
    have HD:=am hd
    have HT:=am ht
    have HN:=am hn
    have HR:=am hr0
    have HC:=am hc0
    have HG:=am hG
    clear hd ht hn hr0 hc0 hG
    go_enter Tryz.func51,Tryz.ntmps51
    go_wp2_with (go_at_call 72;refine(nat_of.calls k _ _ l0 n _ HR.out HC.out HN.out).mono ?_;rintro e w1 ⟨v0,rfl,ho0,hb⟩;obtain⟨A,c,rfl⟩:=Kd.R_slice ho0;have HA:=am (Kd.R_reads' ho0).2;have HB:=am hb;clear ho0 hb)
    obtain⟨gn,hgn⟩ : ∃ g : Nat,w1.heap.size = g:=⟨_,rfl⟩
    obtain⟨W,hW⟩ : ∃ W : World,(w1.alloc (.cells #[.slice A n.length c] 83)).alloc (.cells #[.pointer none,.slice none 0 0] 103) = W:=⟨_,rfl⟩
    have HI : Aside0 (nat_TI w1 W gn A c n []):=⟨by
     subst hW
     subst hgn
     refine⟨?_,?_,?_,?_⟩
     ·rw [(below_alloc (Below.refl (w1.alloc (.cells #[.slice A n.length c] 83)).heap.size _) _).block _ (by simp)]
      exact heap_alloc_new _ _
     ·have hs : (w1.alloc (.cells #[.slice A n.length c] 83)).heap.size = w1.heap.size + 1:=by simp
      rw [← hs]
      exact Lib.fresh_isBuilder _ _ _
     ·exact(below_alloc (Below.refl _ _) _).trans ((below_alloc (Below.refl _ _) _).mono (by simp))
     ·simp⟩
    rw [hW,hgn]
    clear hW
    obtain⟨top,htop⟩ : ∃ u : Nat,(u : Int) = n.getD (n.length - 1) 0:=⟨(n.getD (n.length - 1) 0).toNat,by have:=nat_txt_at HD.out (n.length - 1);omega⟩
    have htop9 : top < 1000000000:=by have:=nat_txt_at HD.out (n.length - 1);omega
    have hft : nat_digits_top.f n = some (top : Int):=by rw [htop];exact nat_top_f n hl
    have HTT:=am htop
    clear htop
    refine(nat_digits_top.calls _ _ n _ _ (Kd.C_below HA.out.2 (hgn ▸ HI.out.bel)) HA.out.1 hft).mono ?_
    rintro e w2 ⟨rfl,nd,rfl⟩
    replace HI:=am (HI.out.step (nat_below_drew W nd))
    generalize W.drewN nd = W at *
    clear hft
    have HGW:=am (HG.out.below (HB.out.trans (HI.out.bel.mono (by have:=HB.out.size;omega))))
    go_wp2_with (go_at_call 77;refine(X_FormatUint top (by omega) _ HGW.out).mono ?_;rintro e w3 ⟨rfl,hb3⟩)
    replace HI:=am (HI.out.step hb3)
    clear hb3 HGW
    have hlen0 : (Lib.byteCells []).length + (⟨(Lib.decDigits top).toArray⟩ : ByteArray).size≤140737488355328:=by
     have:=nat_dec9 top htop9
     show 0 + (Lib.decDigits top).toArray.size≤_
     rw [List.size_toArray]
     omega
    refine(X_WriteString (gn + 1) (gn + 1) _ _ _ HI.out.bld hlen0 HI.out.lt).mono ?_
    rintro e w4 ⟨rfl,hp4⟩
    replace HI:=am (HI.out.write hp4)
    clear hp4 hlen0
    have HS : Aside0 (([] ++ (⟨(Lib.decDigits top).toArray⟩ : ByteArray).data.toList) ++ nat_txtLow n (n.length - 1) = nat_txt n):=⟨by
     unfold nat_txt
     rw [← HTT.out]
     simp⟩
    generalize ([] ++ (⟨(Lib.decDigits top).toArray⟩ : ByteArray).data.toList) = l at *
    have hcell:=HI.out.cell
    go_wp2
    go_loopw [5] (fun v5 wr=>∃ (i : Int) (l : List UInt8),v5 = .int .i64 i∧-2≤i∧i < 1000000000000000∧Aside0 (i < n.length)∧Aside0 (nat_TI w1 wr gn A c n l)∧Aside0 (l ++ nat_txtLow n (i + 1).toNat = nat_txt n)) (fun v5 _=>(intOf v5 + 2).toNat)
    case atStart=>exact⟨_,l,rfl,by omega,by omega,⟨by omega⟩,HI,⟨by rw [show((n.length : Int) - 2 + 1).toNat = n.length - 1 from by omega];exact HS.out⟩⟩
    case round=>
     clear HS HI hcell
     obtain⟨i,l,rfl,hi0,hi1,hi2,HI,HS⟩:=hrel
     have hcell:=HI.out.cell
     by_cases hi : 0≤i
     ·have hi' : decide (0≤i) = true:=decide_eq_true hi
      obtain⟨j,rfl⟩ : ∃ j : Nat,i = j:=⟨i.toNat,by omega⟩
      have hj : j < n.length:=by have:=hi2.out;omega
      obtain⟨d,hd⟩ : ∃ u : Nat,(u : Int) = n.getD j 0:=⟨(n.getD j 0).toNat,by have:=nat_txt_at HD.out j;omega⟩
      have hd9 : d < 1000000000:=by have:=nat_txt_at HD.out j;omega
      have hfd : Aside0 (nat_digits_at.f n (j : Int) = some (d : Int)):=⟨nat_at_f n j d hj hd⟩
      have hds : (Lib.decDigits d).length≤9:=nat_dec9 d hd9
      have HP : Aside0 (Lib.repeatL [48] (9 - (Lib.decDigits d).length) ++ Lib.decDigits d = nat_txtPad (n.getD j 0)):=⟨by unfold nat_txtPad;rw [← hd];rfl⟩
      clear hd
      go_wp2_with fail
      refine(nat_digits_at.calls _ _ n _ _ _ (Kd.C_below HA.out.2 (hgn ▸ HI.out.bel)) HA.out.1 hfd.out).mono ?_
      rintro e w2 ⟨rfl,nd2,rfl⟩
      replace HI:=am (HI.out.step (nat_below_drew wr nd2))
      clear hcell hfd
      generalize wr.drewN nd2 = wa at *
      have HGW:=am (HG.out.below (HB.out.trans (HI.out.bel.mono (by have:=HB.out.size;omega))))
      go_wp2_with (go_at_call 77;refine(X_FormatUint d (by omega) _ HGW.out).mono ?_;rintro e wb ⟨rfl,hb3⟩)
      replace HI:=am (HI.out.step hb3)
      clear hb3 HGW
      rw [show(9 - ((Lib.decDigits d).length : Int)) = ((9 - (Lib.decDigits d).length : Nat) : Int) from by omega]
      refine(X_Repeat ⟨#[48]⟩ (9 - (Lib.decDigits d).length) _ (by omega) (by show 1 * _≤_;omega)).mono ?_
      rintro e wc ⟨rfl,hb4⟩
      replace HI:=am (HI.out.step hb4)
      clear hb4
      have hrl:=nat_rep_len (9 - (Lib.decDigits d).length)
      have HP2 : Aside0 (Lib.repeatL (⟨#[48]⟩ : ByteArray).data.toList (9 - (Lib.decDigits d).length) ++ Lib.decDigits d = nat_txtPad (n.getD j 0)):=⟨HP.out⟩
      have hrl2 : (Lib.repeatL (⟨#[48]⟩ : ByteArray).data.toList (9 - (Lib.decDigits d).length)).length≤9:=by show(Lib.repeatL [48] _).length≤9;omega
      clear HP hrl
      generalize Lib.repeatL (⟨#[48]⟩ : ByteArray).data.toList (9 - (Lib.decDigits d).length) = R at *
      generalize Lib.decDigits d = D at *
      go_wp2_with fail
      have hsl : Aside0 ((({ data:=R.toArray } : ByteArray) ++ ({ data:=D.toArray } : ByteArray)).data.toList = nat_txtPad (n.getD j 0)):=⟨by rw [← HP2.out];simp⟩
      have hlow : nat_txtLow n ((j : Int) + 1).toNat = nat_txtPad (n.getD j 0) ++ nat_txtLow n j:=by rw [show((j : Int) + 1).toNat = j + 1 from by omega];rfl
      have hlenW : (Lib.byteCells l).length + (({ data:=R.toArray } : ByteArray) ++ ({ data:=D.toArray } : ByteArray)).size≤140737488355328:=by
       have h1:=HT.out
       rw [← HS.out,hlow,← HP2.out] at h1
       simp only [List.length_append] at h1
       rw [Lib.byteCells_length]
       have h2 : (({ data:=R.toArray } : ByteArray) ++ ({ data:=D.toArray } : ByteArray)).size = R.length + D.length:=by
        show(({ data:=R.toArray } : ByteArray) ++ ({ data:=D.toArray } : ByteArray)).data.size = _
        simp
       omega
      refine(X_WriteString (gn + 1) (gn + 1) _ _ _ HI.out.bld hlenW HI.out.lt).mono ?_
      rintro e wd ⟨rfl,hp4⟩
      replace HI:=am (HI.out.write hp4)
      have HS2 : Aside0 ((l ++ (({ data:=R.toArray } : ByteArray) ++ ({ data:=D.toArray } : ByteArray)).data.toList) ++ nat_txtLow n ((j : Int) - 1 + 1).toNat = nat_txt n):=⟨by
       rw [hsl.out,show((j : Int) - 1 + 1).toNat = j from by omega,List.append_assoc,← hlow]
       exact HS.out⟩
      clear hp4 hlenW hlow hsl HP2 HS
      generalize l ++ (({ data:=R.toArray } : ByteArray) ++ ({ data:=D.toArray } : ByteArray)).data.toList = l2 at *
      go_wp2
      go_roundw
      case rel=>exact⟨(j : Int) - 1,l2,rfl,by omega,by omega,⟨by omega⟩,HI,HS2⟩
      case measure=>simp [intOf];omega
     ·have hi' : decide (0≤i) = false:=decide_eq_false hi
      go_wp2_with fail
      refine(X_String (gn + 1) (gn + 1) l _ HI.out.bld HI.out.lt).mono ?_
      rintro e w5 ⟨rfl,hb5⟩
      have hlt : l = nat_txt n:=by
       have h:=HS.out
       rw [show(i + 1).toNat = 0 from by omega] at h
       simpa [nat_txtLow] using h
      have hbel : Aside0 (Below w.heap.size w w5):=⟨HB.out.trans ((HI.out.bel.trans (hb5.mono (by omega))).mono (by have:=HB.out.size;omega))⟩
      subst hlt
      clear hb5 HI HS hcell
      go_wp2
      go_ret
      exact⟨rfl,hbel.out⟩
   ·rw [if_neg ht] at h
    exact absurd h (by simp)
  ·rw [if_neg hl] at h
   exact absurd h (by simp)
 ·rw [if_neg hd] at h
  exact absurd h (by simp)


end Go.Proofs.YtcbohpmdeboeoaaGreatDoorRR.X

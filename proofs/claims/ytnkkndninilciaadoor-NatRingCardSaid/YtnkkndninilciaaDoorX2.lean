-- Printed by xprint.py, this session's own program (wip/tool), out of the translation. Lean checks it.
import Derived.Test.YtnkkndninilciaaDoorZ
import Derived.Test.YtnkkndninilciaaDoorX0
import Derived.Test.YtnkkndninilciaaDoorX1
namespace Go.Proofs.YtnkkndninilciaaDoor.X
open Go.Proofs.YtnkkndninilciaaDoor.Z
open Go.RowKit Go.Proofs.YtnkkndninilciaaDoorW.PrintWords Go.Proofs.YtnkkndninilciaaDoorW.PrintLast Go.Proofs.YtnkkndninilciaaDoorW.PrintMore
open List renaming setIfInBounds_toArray → sA, set_cons_zero → sZ, set_cons_succ → sS
open Aside0 renaming mk → am
open Bool renaming true → tt, false → ff
set_option maxHeartbeats 8000000
set_option maxRecDepth 100000
attribute [local go_sem] max2_int min2_int max_two min_two max_three min_three max_four min_four   -- for this text's walks alone
set_option linter.unusedVariables false
set_option linter.unusedSimpArgs false

/-! ### nat_number_plus: function 25 -/
def nat_number_plus.l0 : Nat→List Int→Int→Int→List Int→List Int→Option (List Int)
 | 0,_,_,_,_,_=>none
 | k + 1,x5,x16,x17,x137000,x138000=>if x17 < x16 then((nat_digits_at.f x137000 x17).bind fun t142=>((nat_digits_at.f x138000 x17).bind fun t143=>(if 0≤x17 then(if x17 < (x5.length : Int) then(nat_number_plus.l0 k (x5.set (x17 : Int).toNat (IntKind.u64.wrap (t142 + t143))) x16 (wrap64 (x17 + 1)) x137000 x138000) else(none)) else(none)))) else((nat_carried.f k x5).bind fun t145=>(some t145))
def nat_number_plus.f (k : Nat) (l0_0 : List Int) (l1_0 : List Int) : Option (List Int):=if (l0_0.length : Int) < (l1_0.length : Int) then(if 0≤(l1_0.length : Int) then(if ((l1_0.length : Int) : Int).toNat≤35184372088832 then((some (List.replicate ((l1_0.length : Int) : Int).toNat 0 : List Int)).bind fun y139=>(nat_number_plus.l0 k y139 (y139.length : Int) 0 l0_0 l1_0)) else(none)) else(none)) else(if 0≤(l0_0.length : Int) then(if ((l0_0.length : Int) : Int).toNat≤35184372088832 then((some (List.replicate ((l0_0.length : Int) : Int).toNat 0 : List Int)).bind fun y148=>(nat_number_plus.l0 k y148 (y148.length : Int) 0 l0_0 l1_0)) else(none)) else(none))
def nat_number_plus.T5 : Bool×List (List Nat×List Nat):=(true,[([],[]),([],[]),([],[]),([2],[2]),([],[]),([3,4],[3,4]),([],[]),([6],[6]),([],[]),([7,8,5],[7,8]),([5,9],[5,9]),([0,1,0,1,2,3,4,5,6,7,8,9,10],[0,1]),([11,10,9,0,1,2,3,4,5,6,7,8,9,10],[10,11])])
def nat_number_plus.B5 : List Nat:=[0,0,0,4,0,28,0,64,0,508,1020,2047,4095]
theorem nat_number_plus.tab5 : rtab .any (opsOf Tryd.f25 5) = nat_number_plus.T5:=by kernel_rfl
theorem nat_number_plus.bits5 : waitsOk nat_number_plus.T5.2 nat_number_plus.B5 = true:=by kernel_rfl
theorem nat_number_plus.calls (k : Nat) (A0_0 : Option Addr) (c0_0 : Nat) (l0_0 : List Int) (A1_0 : Option Addr) (c1_0 : Nat) (l1_0 : List Int) (r : List Int) (w : World) (hr0_0 : Kd.C (Kd.int .u64) w A0_0 l0_0.length l0_0) (hc0_0 : l0_0.length≤c0_0) (hr1_0 : Kd.C (Kd.int .u64) w A1_0 l1_0.length l1_0) (hc1_0 : l1_0.length≤c1_0) (h : nat_number_plus.f k l0_0 l1_0 = some r) :
  Calls Tryd.prog 25 #[.agg #[.slice A0_0 l0_0.length c0_0],.agg #[.slice A1_0 l1_0.length c1_0]] w fun e w'=>∃ v0_ : Value,e = .returned (.agg #[v0_])∧Kd.R (Kd.int .u64) 55 w' w.heap.size (fun _=>True) v0_ r∧Below w.heap.size w w':=by
 have hu47:=Tryd.underlying47
 have HR0_0:=am hr0_0
 have HC0_0:=am hc0_0
 clear hr0_0 hc0_0
 have HR1_0:=am hr1_0
 have HC1_0:=am hc1_0
 clear hr1_0 hc1_0
 have HB:=am (Below.refl w.heap.size w)
 have H : (if (l0_0.length : Int) < (l1_0.length : Int) then(if 0≤(l1_0.length : Int) then(if ((l1_0.length : Int) : Int).toNat≤35184372088832 then((some (List.replicate ((l1_0.length : Int) : Int).toNat 0 : List Int)).bind fun y139=>(nat_number_plus.l0 k y139 (y139.length : Int) 0 l0_0 l1_0)) else(none)) else(none)) else(if 0≤(l0_0.length : Int) then(if ((l0_0.length : Int) : Int).toNat≤35184372088832 then((some (List.replicate ((l0_0.length : Int) : Int).toNat 0 : List Int)).bind fun y148=>(nat_number_plus.l0 k y148 (y148.length : Int) 0 l0_0 l1_0)) else(none)) else(none))) = some r:=h
 clear h
 by_cases c3 : (l0_0.length : Int) < (l1_0.length : Int)
 ·rw [if_pos c3] at H
  have c3i:=eq_true c3
  have c3b0 : decide ((l0_0.length : Int) < (l1_0.length : Int)) = true:=decide_eq_true c3
  have c3b1 : decide (l0_0.length < l1_0.length) = true:=decide_eq_true (Int.ofNat_lt.mp c3)
  clear c3
  by_cases c4 : 0≤(l1_0.length : Int)
  ·rw [if_pos c4] at H
   have c4b0:=eq_true c4
   have c4b1 : decide (0≤(l1_0.length : Int)) = true:=decide_eq_true c4
   clear c4
   by_cases c5 : ((l1_0.length : Int) : Int).toNat≤35184372088832
   ·rw [if_pos c5] at H
    have c5b0:=eq_true c5
    have c5b1 : decide (((l1_0.length : Int) : Int).toNat≤35184372088832) = true:=decide_eq_true c5
    clear c5
    obtain⟨y139,hy139⟩ : ∃ y_ : List Int,y_ = (List.replicate ((l1_0.length : Int) : Int).toNat 0):=⟨_,rfl⟩
    replace H : (nat_number_plus.l0 k y139 (y139.length : Int) 0 l0_0 l1_0) = some r:=by first |(rw [hy139];with_reducible exact H) |(have H2_:=(Option.bind_some _ _).symm.trans H;rw [hy139];with_reducible exact H2_) |(have H2_:=(Option.bind_some _ _).symm.trans H;with_reducible exact H2_) | with_reducible exact H |(rw [hy139];exact H) | exact H
    have Ny139:=am hy139
    clear hy139
    have H':=am H
    clear H
    go_enter Tryd.func25,Tryd.ntmps25
    go_wp2_with (first |((with_reducible refine gate_dst (N:=2) rfl ?_);refine box_event ?hg (N:=2) ?hd (cs:=#[.slice A0_0 l0_0.length c0_0]) (t:=47) ?hr ?_;(case hd=>rfl);(case hg=>rfl);(case hr=>exact zh);intro gb136 hg w6 hbox hb;have BK136:=am (hbox);have GW136:=gw w hg;have GE136:=gw w hg;replace HB:=am (below_step zb hb);clear hb hbox hg) |((with_reducible refine gate_dst (N:=3) rfl ?_);refine box_event ?hg (N:=3) ?hd (cs:=#[.slice A1_0 l1_0.length c1_0]) (t:=47) ?hr ?_;(case hd=>rfl);(case hg=>rfl);(case hr=>exact zh);intro gb137 hg w7 hbox hb;have BK137:=am (hbox);have GW137:=gw w hg;have GE137:=gw w hg;replace HB:=am (below_step zb hb);have NB136_137:=nl BK136 hg;have NB137_136:=nr BK136 hg;replace BK136:=kb BK136 hb;clear hb hbox hg) |((with_reducible refine gate_dst (N:=4) rfl ?_);refine box_event ?hg (N:=4) ?hd (cs:=#[.slice none 0 0]) (t:=47) ?hr ?_;(case hd=>rfl);(case hg=>rfl);(case hr=>exact zh);intro gb138 hg w8 hbox hb;have BK138:=am (hbox);have GW138:=gw w hg;have GE138:=gw w hg;replace HB:=am (below_step zb hb);have NB136_138:=nl BK136 hg;have NB138_136:=nr BK136 hg;replace BK136:=kb BK136 hb;have NB137_138:=nl BK137 hg;have NB138_137:=nr BK137 hg;replace BK137:=kb BK137 hb;clear hb hbox hg;have hnb9:=NB136_137.out;have hnc9:=NB137_136.out;have hnb10:=NB136_138.out;have hnc10:=NB138_136.out;have hcz11_0 : w8.cell? ⟨gb136,0,none⟩ = some (.slice A0_0 l0_0.length c0_0):=(blk_cell BK136.out 0).trans rfl;have hfz11_0:=blk_frozen BK136.out 0;have hnb12:=NB137_138.out;have hnc12:=NB138_137.out;have hcz13_0 : w8.cell? ⟨gb137,0,none⟩ = some (.slice A1_0 l1_0.length c1_0):=(blk_cell BK137.out 0).trans rfl;have hfz13_0:=blk_frozen BK137.out 0) |((with_reducible refine gate_dst (N:=14) rfl ?_);refine Kd.R_make (Kd.int .u64) _ 55 rfl (N:=14) rfl 45 _ _ rfl (l1_0.length : Int) rfl rfl Tryd.underlying45 (.int .u64 0) 8 info55 rfl (by decide) (by omega) 0 (ok:=fun _=>True) (okp:=fun _=>True) rfl (fun _ hk=>hk) trivial (of_decide_eq_true za) (Nat.le_trans (Nat.mul_le_mul_right _ (of_decide_eq_true za : (l1_0.length : Int).toNat≤35184372088832)) (by omega)) (Below.refl _ _) (Nat.le_refl _) ?_;intro v140 w14 ho15 hb hg_ hnew_;clear hg_ hnew_;(first | rw [← Ny139.out] at ho15 |(simp only [Int.reduceToNat] at ho15;rw [← Ny139.out] at ho15));have HO141:=am (Kd.R_lower ho15 (below_size zb));replace BK136:=kb BK136 hb;replace BK137:=kb BK137 hb;replace BK138:=kb BK138 hb;replace HB:=am (below_step zb hb);clear hb ho15;obtain⟨Ao16,co16,eo16⟩:=Kd.R_slice HO141.out;subst eo16))
    go_loopg [17] k (fun kq v17 w'=>∃ (x5_1 : List Int) (x17_1 : Int),v17 = .int .i64 x17_1∧Aside0 (nat_number_plus.l0 kq x5_1 (y139.length : Int) x17_1 l0_0 l1_0 = some r)∧Aside0 (kq≤k)∧Aside0 (Kd.R (Kd.int .u64) 55 w' w.heap.size (fun _=>True) (.slice Ao16 y139.length co16) x5_1)∧Aside0 (w'.heap[gb136]? = some (.cells #[(.slice A0_0 l0_0.length c0_0)] 47 (0,0)))∧Aside0 (w'.heap[gb137]? = some (.cells #[(.slice A1_0 l1_0.length c1_0)] 47 (0,0)))∧Aside0 (w'.heap[gb138]? = some (.cells #[(.slice none 0 0)] 47 (0,0)))∧Aside0 (Below w.heap.size w w'))
    case atStart=>exact⟨(y139),(0),ze,H',⟨Nat.le_refl _⟩,⟨zR HO141.out⟩,⟨zk BK136.out⟩,⟨zk BK137.out⟩,⟨zk BK138.out⟩,⟨zb⟩⟩
    case round=>
     clear H'
     try clear c1
     try clear c2
     try clear p2
     try clear c3
     try clear c3b0
     try clear c3b1
     try clear c4
     try clear c4b0
     try clear c4b1
     try clear c5
     try clear c5b0
     try clear c5b1
     try clear c9
     try clear c10
     try clear c12
     try clear hcz11_0
     try clear hcz13_0
     try clear hfz11_0
     try clear hfz13_0
     obtain⟨x5_1,x17_1,rfl,HA,HK1,HO_5,BK136,BK137,BK138,HB⟩:=hrel
     have hl5_1:=(Kd.R_reads' HO_5.out).1
     rw [hl5_1] at HO_5
     (try simp only [hl5_1])
     (try simp only [hl5_1] at BK136)
     (try simp only [hl5_1] at BK137)
     (try simp only [hl5_1] at BK138)
     cases gk with
     | zero=>exact absurd HA.out (by simp [nat_number_plus.l0])
     | succ k1=>
      have H:=HA.out
      clear HA
      simp only [nat_number_plus.l0] at H
      by_cases c17 : x17_1 < (y139.length : Int)
      ·rw [if_pos c17] at H
       have c17b0 : decide (x17_1 < (y139.length : Int)) = true:=decide_eq_true c17
       (try simp only [hl5_1] at c17b0)
       clear c17
       replace H:=Option.bind_eq_some_iff.mp H
       obtain⟨t142,A180,H⟩:=H
       try dsimp only at H
       have A18:=am A180
       clear A180
       replace H:=Option.bind_eq_some_iff.mp H
       obtain⟨t143,A190,H⟩:=H
       try dsimp only at H
       have A19:=am A190
       clear A190
       by_cases c20 : 0≤x17_1
       ·rw [if_pos c20] at H
        have c20b0 : decide (0≤x17_1) = true:=decide_eq_true c20
        clear c20
        by_cases c21 : x17_1 < (x5_1.length : Int)
        ·rw [if_pos c21] at H
         have c21b0 : decide (x17_1 < (x5_1.length : Int)) = true:=decide_eq_true c21
         (try simp only [hl5_1] at c21b0)
         clear c21
         obtain⟨y144,hy144⟩ : ∃ y_ : List Int,y_ = (x5_1.set (x17_1 : Int).toNat (IntKind.u64.wrap (t142 + t143))):=⟨_,rfl⟩
         replace H : (nat_number_plus.l0 k1 y144 (y139.length : Int) (wrap64 (x17_1 + 1)) l0_0 l1_0) = some r:=by first |(rw [hy144];with_reducible exact H) |(have H2_:=(Option.bind_some _ _).symm.trans H;rw [hy144];with_reducible exact H2_) |(have H2_:=(Option.bind_some _ _).symm.trans H;with_reducible exact H2_) | with_reducible exact H |(rw [hy144];exact H) | exact H
         have Ny144:=am hy144
         clear hy144
         have H':=am H
         clear H
         try go_wp2
         replace HO_5:=am (Kd.R_drew HO_5.out)
         replace BK136:=am (blk_drew BK136.out)
         replace BK137:=am (blk_drew BK137.out)
         replace BK138:=am (blk_drew BK138.out)
         replace HB:=am (below_drew1 HB.out)
         refine start_ (n:=13) (S:=fun w'=>w'.cell? ⟨gb136,0,none⟩ = some (.slice A0_0 l0_0.length c0_0)∧w'.cell? ⟨gb137,0,none⟩ = some (.slice A1_0 l1_0.length c1_0)) (ds:=[12]) #[ff,ff,ff,ff,ff,ff,ff,ff,ff,ff,ff,ff,ff] (by kernel_rfl) rfl rfl ⟨(blk_cell BK136.out 0).trans rfl,(blk_cell BK137.out 0).trans rfl⟩ (fun hHeld=>?_);refine with_tabW nat_number_plus.tab5 nat_number_plus.bits5 (fun HT_ HW_=>?_)
         generalize wr.drew = w23 at HO_5 BK136 BK137 BK138 HB hHeld ⊢
         refine pu (i:=0) (N:=some 20) #[tt,ff,ff,ff,ff,ff,ff,ff,ff,ff,ff,ff,ff] (any_of HT_.out (by kernel_rfl)) ?_
         refine pu (i:=1) (N:=some 21) #[tt,tt,ff,ff,ff,ff,ff,ff,ff,ff,ff,ff,ff] (any_of HT_.out (by kernel_rfl)) ?_
         refine pu (i:=2) (N:=some 22) #[tt,tt,tt,ff,ff,ff,ff,ff,ff,ff,ff,ff,ff] (any_of HT_.out (by kernel_rfl)) ?_
         refine pu (i:=4) (N:=some 24) #[tt,tt,tt,ff,tt,ff,ff,ff,ff,ff,ff,ff,ff] (any_of HT_.out (by kernel_rfl)) ?_
         refine pu (i:=6) (N:=some 26) #[tt,tt,tt,ff,tt,ff,tt,ff,ff,ff,ff,ff,ff] (any_of HT_.out (by kernel_rfl)) ?_
         refine pu (i:=8) (N:=some 28) #[tt,tt,tt,ff,tt,ff,tt,ff,tt,ff,ff,ff,ff] (any_of HT_.out (by kernel_rfl)) ?_
         refine take_ (i:=3) (N:=some 23) (v:=?_) (a':=?_) #[tt,tt,tt,tt,tt,ff,tt,ff,tt,ff,ff,ff,ff] rfl rfl (take_ofW HT_.out HW_.out (by kernel_rfl)) (fun _ _ _ h=>h) (Or.inl ⟨by rfl,?_⟩) hHeld ?_ ?_
         rotate_left
         ·rintro w' ⟨s0,s1⟩
          go_simp
          with_reducible rfl
         rotate_left
         ·simp only [Act.put,sA,sZ,sS,i64_w,i32_w]
          rfl
         refine take_ (i:=7) (N:=some 27) (v:=?_) (a':=?_) #[tt,tt,tt,tt,tt,ff,tt,tt,tt,ff,ff,ff,ff] rfl rfl (take_ofW HT_.out HW_.out (by kernel_rfl)) (fun _ _ _ h=>h) (Or.inl ⟨by rfl,?_⟩) hHeld ?_ ?_
         rotate_left
         ·rintro w' ⟨s0,s1⟩
          go_simp
          with_reducible rfl
         rotate_left
         ·simp only [Act.put,sA,sZ,sS,i64_w,i32_w]
          rfl
         refine one_ (i:=5) (N:=some 25) #[tt,tt,tt,tt,tt,tt,tt,tt,tt,ff,ff,ff,ff] rfl rfl (one_of HT_.out (by kernel_rfl)) (by decide) (fun K hK=>?_)
         refine goes_ Tryd.func43 (by kernel_rfl) rfl #[.slice A0_0 l0_0.length c0_0,.int .i64 x17_1] (by rfl) rfl rfl zl ?_
         with_reducible refine(nat_digits_at.calls _ _ l0_0 x17_1 t142 _ ?side1 ?side2 A18.out).mono ?_
         (case side1=>repeat (first | exact(Kd.C_below HR0_0.out HB.out) |(with_reducible refine Kd.C_alloc ?_ _) |(with_reducible refine Kd.C_drewN ?_ _) |(with_reducible refine Kd.C_drew ?_)))
         (case side2=>exact HC0_0.out)
         rintro e w' ⟨rfl,⟨nd,rfl⟩⟩
         refine⟨_,rfl,?_⟩
         refine hK.out _ _ ⟨(blk_cell BK136.out 0).trans rfl,(blk_cell BK137.out 0).trans rfl⟩ (fun hHeld=>?_)
         clear hK K
         refine norm_ (a':=?_) ?_ ?_
         rotate_left
         ·show Act.put _ (some 25) _ = _
          simp only [Act.put,sA,sZ,sS,i64_w,i32_w]
          rfl
         refine one_ (i:=9) (N:=some 29) #[tt,tt,tt,tt,tt,tt,tt,tt,tt,tt,ff,ff,ff] rfl rfl (one_of HT_.out (by kernel_rfl)) (by decide) (fun K hK=>?_)
         refine goes_ Tryd.func43 (by kernel_rfl) rfl #[.slice A1_0 l1_0.length c1_0,.int .i64 x17_1] (by rfl) rfl rfl zl ?_
         with_reducible refine(nat_digits_at.calls _ _ l1_0 x17_1 t143 _ ?side1 ?side2 A19.out).mono ?_
         (case side1=>repeat (first | exact(Kd.C_below HR1_0.out zb) |(with_reducible refine Kd.C_alloc ?_ _) |(with_reducible refine Kd.C_drewN ?_ _) |(with_reducible refine Kd.C_drew ?_)))
         (case side2=>exact HC1_0.out)
         rintro e w' ⟨rfl,⟨nd,rfl⟩⟩
         refine⟨_,rfl,?_⟩
         have p22 : 0≤(x17_1 : Int):=of_decide_eq_true za
         have q22 : (x17_1 : Int) < ((x5_1.length : Int) : Int):=of_decide_eq_true za
         obtain⟨go22,co22,eo22,gb22,gl22,cl22,HG22⟩:=Kd.R_form HO_5.out (by omega)
         (first | cases eo22 |(injection eo22 with ea_ en_ ec_;(first | subst ea_ |(injection ea_ with ea_;subst ea_));subst ec_;clear en_))
         have GB22:=am gb22
         have GG22:=am HG22
         clear gb22 gl22 HG22
         obtain⟨hx22_0,hf22_0⟩:=Kd.R_celln 0 HO_5.out (x17_1 : Int) p22 q22
         replace p22:=eq_true p22
         replace q22:=eq_true q22
         have HP24:=Kd.R_putn HO_5.out (x17_1 : Int) (IntKind.u64.wrap (t142 + t143))
         rw [← Ny144.out] at HP24
         have HQ24:=am HP24
         clear HP24
         refine hK.out _ _ ⟨(blk_cell BK136.out 0).trans rfl,(blk_cell BK137.out 0).trans rfl⟩ (fun hHeld=>?_)
         clear hK K
         refine norm_ (a':=?_) ?_ ?_
         rotate_left
         ·show Act.put _ (some 29) _ = _
          simp only [Act.put,sA,sZ,sS,i64_w,i32_w]
          rfl
         refine pu (i:=10) (N:=some 30) #[tt,tt,tt,tt,tt,tt,tt,tt,tt,tt,tt,ff,ff] (any_of HT_.out (by kernel_rfl)) ?_
         refine pu (i:=11) (N:=some 31) #[tt,tt,tt,tt,tt,tt,tt,tt,tt,tt,tt,tt,ff] (any_of HT_.out (by kernel_rfl)) ?_
         refine last_ (i:=12) (N:=none) #[tt,tt,tt,tt,tt,tt,tt,tt,tt,tt,tt,tt,tt] rfl rfl (one_of HT_.out (by kernel_rfl)) (by decide) (fun K hK=>?_)
         refine skip_ (w1:=?_) (by rfl) rfl ?_ ?_
         rotate_left
         ·go_simp
          rfl
         refine hK.out _ _ ?_
         clear hK K
         refine done_ (done_of HT_.out (by kernel_rfl)) ?_
         try go_wp2
         (try simp only [← hl5_1])
         go_roundg k1
         case measure=>have:=HK1.out;omega
         case rel=>exact⟨(y144),(wrap64 (x17_1 + 1)),ze,H',⟨by have:=HK1.out;omega⟩,⟨by(try simp only [hl5_1]);refine zR ?_;exact HQ24.out⟩,⟨by(try simp only [hl5_1]);refine zk ?_;refine blk_far ?_ (by have h_:=Kd.R_ne HO_5.out BK136.out (by decide);intro e_;exact h_ (by rw [e_];rfl)) _;refine zk ?_;exact BK136.out⟩,⟨by(try simp only [hl5_1]);refine zk ?_;refine blk_far ?_ (by have h_:=Kd.R_ne HO_5.out BK137.out (by decide);intro e_;exact h_ (by rw [e_];rfl)) _;refine zk ?_;exact BK137.out⟩,⟨by(try simp only [hl5_1]);refine zk ?_;refine blk_far ?_ (by have h_:=Kd.R_ne HO_5.out BK138.out (by decide);intro e_;exact h_ (by rw [e_];rfl)) _;refine zk ?_;exact BK138.out⟩,⟨by repeat (first |(with_reducible first | exact HB.out | apply below_alloc | apply pw_below_drewN | apply below_drew1 | refine below_set ?_ GB22.out | refine below_set ?_ GE136.out | refine below_set ?_ GE137.out | refine below_set ?_ GE138.out) | exact HB.out)⟩⟩
        ·rw [if_neg c21] at H
         exact absurd H (by simp)
       ·rw [if_neg c20] at H
        exact absurd H (by simp)
      ·rw [if_neg c17] at H
       have c17b0 : decide (x17_1 < (y139.length : Int)) = false:=decide_eq_false c17
       (try simp only [hl5_1] at c17b0)
       clear c17
       replace H:=Option.bind_eq_some_iff.mp H
       obtain⟨t145,A250,H⟩:=H
       try dsimp only at H
       have A25:=am A250
       clear A250
       obtain rfl:=Option.some.inj H
       go_wp2_with (first |((with_reducible refine gate_callee (f:=38) rfl ?_);refine goesL_ (some 34) rfl rfl Tryd.func38 (by kernel_rfl) rfl #[.slice Ao16 x5_1.length co16] rfl zl ?_;(with_reducible refine(nat_carried.calls k1 _ _ x5_1 t145 _ ?side1 ?side2 A25.out).mono ?_);(case side1=>exact zC (Kd.R_reads' HO_5.out).2.2);(case side2=>exact(Kd.R_reads' HO_5.out).2.1);rintro e w26 ⟨v146,rfl,ho0,hb⟩;refine⟨_,rfl,?_⟩;have HO147:=am (Kd.R_lower (Kd.R_new' ho0 (Kd.R_lt (zR HO_5.out))) (below_size zb));replace HO_5:=re HO_5 (Kd.R_base ho0) hb;replace BK136:=kb BK136 hb;replace BK137:=kb BK137 hb;replace BK138:=kb BK138 hb;replace HB:=am (below_step zb hb);(try clear hb);(try clear ho0);obtain⟨Ao27,co27,eo27⟩:=Kd.R_slice HO147.out;subst eo27;have hnb28:=NB138_136.out;have hnc28:=NB136_138.out;have hnb29:=NB138_137.out;have hnc29:=NB137_138.out;have hcz30_0 : w26.cell? ⟨gb138,0,none⟩ = some (.slice none 0 0):=(blk_cell BK138.out 0).trans rfl;have hfz30_0:=blk_frozen BK138.out 0))
       refine bodyPost_ret (results_cell_row rfl _ _ gb138 47 #[.slice Ao27 t145.length co27] (0,0) _ rfl (by refine zk ?_;refine blk_put (cs:=#[.slice none 0 0]) ?_ 0 _ rfl;refine zk ?_;exact BK138.out) Tryd.underlying47 rfl (by kernel_rfl)) rfl ?_
       exact⟨_,zf,by refine zR ?_;exact Kd.R_mono (Kd.R_far (p:=⟨gb138,0,none⟩) (Kd.R_types HO147.out BK138.out (by decide)) (fun _ hk=>hk.2) (.slice Ao27 t145.length co27)) (fun _ hk=>trivial),zb⟩
   ·rw [if_neg c5] at H
    exact absurd H (by simp)
  ·rw [if_neg c4] at H
   exact absurd H (by simp)
 ·rw [if_neg c3] at H
  have c3i:=eq_false c3
  have c3b0 : decide ((l0_0.length : Int) < (l1_0.length : Int)) = false:=decide_eq_false c3
  have c3b1 : decide (l0_0.length < l1_0.length) = false:=decide_eq_false (fun h=>c3 (Int.ofNat_lt.mpr h))
  clear c3
  by_cases c31 : 0≤(l0_0.length : Int)
  ·rw [if_pos c31] at H
   have c31b0:=eq_true c31
   have c31b1 : decide (0≤(l0_0.length : Int)) = true:=decide_eq_true c31
   clear c31
   by_cases c32 : ((l0_0.length : Int) : Int).toNat≤35184372088832
   ·rw [if_pos c32] at H
    have c32b0:=eq_true c32
    have c32b1 : decide (((l0_0.length : Int) : Int).toNat≤35184372088832) = true:=decide_eq_true c32
    clear c32
    obtain⟨y148,hy148⟩ : ∃ y_ : List Int,y_ = (List.replicate ((l0_0.length : Int) : Int).toNat 0):=⟨_,rfl⟩
    replace H : (nat_number_plus.l0 k y148 (y148.length : Int) 0 l0_0 l1_0) = some r:=by first |(rw [hy148];with_reducible exact H) |(have H2_:=(Option.bind_some _ _).symm.trans H;rw [hy148];with_reducible exact H2_) |(have H2_:=(Option.bind_some _ _).symm.trans H;with_reducible exact H2_) | with_reducible exact H |(rw [hy148];exact H) | exact H
    have Ny148:=am hy148
    clear hy148
    have H':=am H
    clear H
    go_enter Tryd.func25,Tryd.ntmps25
    go_wp2_with (first |((with_reducible refine gate_dst (N:=2) rfl ?_);refine box_event ?hg (N:=2) ?hd (cs:=#[.slice A0_0 l0_0.length c0_0]) (t:=47) ?hr ?_;(case hd=>rfl);(case hg=>rfl);(case hr=>exact zh);intro gb136 hg w33 hbox hb;have BK136:=am (hbox);have GW136:=gw w hg;have GE136:=gw w hg;replace HB:=am (below_step zb hb);clear hb hbox hg) |((with_reducible refine gate_dst (N:=3) rfl ?_);refine box_event ?hg (N:=3) ?hd (cs:=#[.slice A1_0 l1_0.length c1_0]) (t:=47) ?hr ?_;(case hd=>rfl);(case hg=>rfl);(case hr=>exact zh);intro gb137 hg w34 hbox hb;have BK137:=am (hbox);have GW137:=gw w hg;have GE137:=gw w hg;replace HB:=am (below_step zb hb);have NB136_137:=nl BK136 hg;have NB137_136:=nr BK136 hg;replace BK136:=kb BK136 hb;clear hb hbox hg) |((with_reducible refine gate_dst (N:=4) rfl ?_);refine box_event ?hg (N:=4) ?hd (cs:=#[.slice none 0 0]) (t:=47) ?hr ?_;(case hd=>rfl);(case hg=>rfl);(case hr=>exact zh);intro gb138 hg w35 hbox hb;have BK138:=am (hbox);have GW138:=gw w hg;have GE138:=gw w hg;replace HB:=am (below_step zb hb);have NB136_138:=nl BK136 hg;have NB138_136:=nr BK136 hg;replace BK136:=kb BK136 hb;have NB137_138:=nl BK137 hg;have NB138_137:=nr BK137 hg;replace BK137:=kb BK137 hb;clear hb hbox hg;have hnb36:=NB136_137.out;have hnc36:=NB137_136.out;have hnb37:=NB136_138.out;have hnc37:=NB138_136.out;have hcz38_0 : w35.cell? ⟨gb136,0,none⟩ = some (.slice A0_0 l0_0.length c0_0):=(blk_cell BK136.out 0).trans rfl;have hfz38_0:=blk_frozen BK136.out 0;have hnb39:=NB137_138.out;have hnc39:=NB138_137.out;have hcz40_0 : w35.cell? ⟨gb137,0,none⟩ = some (.slice A1_0 l1_0.length c1_0):=(blk_cell BK137.out 0).trans rfl;have hfz40_0:=blk_frozen BK137.out 0) |((with_reducible refine gate_dst (N:=14) rfl ?_);refine Kd.R_make (Kd.int .u64) _ 55 rfl (N:=14) rfl 45 _ _ rfl (l0_0.length : Int) rfl rfl Tryd.underlying45 (.int .u64 0) 8 info55 rfl (by decide) (by omega) 0 (ok:=fun _=>True) (okp:=fun _=>True) rfl (fun _ hk=>hk) trivial (of_decide_eq_true za) (Nat.le_trans (Nat.mul_le_mul_right _ (of_decide_eq_true za : (l0_0.length : Int).toNat≤35184372088832)) (by omega)) (Below.refl _ _) (Nat.le_refl _) ?_;intro v149 w41 ho42 hb hg_ hnew_;clear hg_ hnew_;(first | rw [← Ny148.out] at ho42 |(simp only [Int.reduceToNat] at ho42;rw [← Ny148.out] at ho42));have HO150:=am (Kd.R_lower ho42 (below_size zb));replace BK136:=kb BK136 hb;replace BK137:=kb BK137 hb;replace BK138:=kb BK138 hb;replace HB:=am (below_step zb hb);clear hb ho42;obtain⟨Ao43,co43,eo43⟩:=Kd.R_slice HO150.out;subst eo43))
    go_loopg [17] k (fun kq v17 w'=>∃ (x5_1 : List Int) (x17_1 : Int),v17 = .int .i64 x17_1∧Aside0 (nat_number_plus.l0 kq x5_1 (y148.length : Int) x17_1 l0_0 l1_0 = some r)∧Aside0 (kq≤k)∧Aside0 (Kd.R (Kd.int .u64) 55 w' w.heap.size (fun _=>True) (.slice Ao43 y148.length co43) x5_1)∧Aside0 (w'.heap[gb136]? = some (.cells #[(.slice A0_0 l0_0.length c0_0)] 47 (0,0)))∧Aside0 (w'.heap[gb137]? = some (.cells #[(.slice A1_0 l1_0.length c1_0)] 47 (0,0)))∧Aside0 (w'.heap[gb138]? = some (.cells #[(.slice none 0 0)] 47 (0,0)))∧Aside0 (Below w.heap.size w w'))
    case atStart=>exact⟨(y148),(0),ze,H',⟨Nat.le_refl _⟩,⟨zR HO150.out⟩,⟨zk BK136.out⟩,⟨zk BK137.out⟩,⟨zk BK138.out⟩,⟨zb⟩⟩
    case round=>
     clear H'
     try clear c1
     try clear c2
     try clear p2
     try clear q2
     try clear hx2
     try clear hf2
     try clear c3
     try clear c3b0
     try clear c3b1
     try clear c4
     try clear c4b0
     try clear c4b1
     try clear c5
     try clear c5b0
     try clear c5b1
     try clear p6
     try clear c9
     try clear c10
     try clear c12
     try clear c17
     try clear c17b0
     try clear c20
     try clear c20b0
     try clear c21
     try clear c21b0
     try clear p22
     try clear q22
     try clear hx22
     try clear hf22
     try clear c25
     try clear c28
     try clear c29
     try clear c31
     try clear c31b0
     try clear c31b1
     try clear c32
     try clear c32b0
     try clear c32b1
     try clear c36
     try clear c37
     try clear c38
     try clear c39
     try clear c43
     try clear hcz11_0
     try clear hcz13_0
     try clear hcz30_0
     try clear hcz38_0
     try clear hcz40_0
     try clear hfz11_0
     try clear hfz13_0
     try clear hfz30_0
     try clear hfz38_0
     try clear hfz40_0
     try clear hx22_0
     try clear p2
     try clear p22
     try clear q22
     obtain⟨x5_1,x17_1,rfl,HA,HK1,HO_5,BK136,BK137,BK138,HB⟩:=hrel
     have hl5_1:=(Kd.R_reads' HO_5.out).1
     rw [hl5_1] at HO_5
     (try simp only [hl5_1])
     (try simp only [hl5_1] at BK136)
     (try simp only [hl5_1] at BK137)
     (try simp only [hl5_1] at BK138)
     cases gk with
     | zero=>exact absurd HA.out (by simp [nat_number_plus.l0])
     | succ k1=>
      have H:=HA.out
      clear HA
      simp only [nat_number_plus.l0] at H
      by_cases c44 : x17_1 < (y148.length : Int)
      ·rw [if_pos c44] at H
       have c44b0 : decide (x17_1 < (y148.length : Int)) = true:=decide_eq_true c44
       (try simp only [hl5_1] at c44b0)
       clear c44
       replace H:=Option.bind_eq_some_iff.mp H
       obtain⟨t142,A450,H⟩:=H
       try dsimp only at H
       have A45:=am A450
       clear A450
       replace H:=Option.bind_eq_some_iff.mp H
       obtain⟨t143,A460,H⟩:=H
       try dsimp only at H
       have A46:=am A460
       clear A460
       by_cases c47 : 0≤x17_1
       ·rw [if_pos c47] at H
        have c47b0 : decide (0≤x17_1) = true:=decide_eq_true c47
        clear c47
        by_cases c48 : x17_1 < (x5_1.length : Int)
        ·rw [if_pos c48] at H
         have c48b0 : decide (x17_1 < (x5_1.length : Int)) = true:=decide_eq_true c48
         (try simp only [hl5_1] at c48b0)
         clear c48
         obtain⟨y144,hy144⟩ : ∃ y_ : List Int,y_ = (x5_1.set (x17_1 : Int).toNat (IntKind.u64.wrap (t142 + t143))):=⟨_,rfl⟩
         replace H : (nat_number_plus.l0 k1 y144 (y148.length : Int) (wrap64 (x17_1 + 1)) l0_0 l1_0) = some r:=by first |(rw [hy144];with_reducible exact H) |(have H2_:=(Option.bind_some _ _).symm.trans H;rw [hy144];with_reducible exact H2_) |(have H2_:=(Option.bind_some _ _).symm.trans H;with_reducible exact H2_) | with_reducible exact H |(rw [hy144];exact H) | exact H
         have Ny144:=am hy144
         clear hy144
         have H':=am H
         clear H
         try go_wp2
         replace HO_5:=am (Kd.R_drew HO_5.out)
         replace BK136:=am (blk_drew BK136.out)
         replace BK137:=am (blk_drew BK137.out)
         replace BK138:=am (blk_drew BK138.out)
         replace HB:=am (below_drew1 HB.out)
         refine start_ (n:=13) (S:=fun w'=>w'.cell? ⟨gb136,0,none⟩ = some (.slice A0_0 l0_0.length c0_0)∧w'.cell? ⟨gb137,0,none⟩ = some (.slice A1_0 l1_0.length c1_0)) (ds:=[12]) #[ff,ff,ff,ff,ff,ff,ff,ff,ff,ff,ff,ff,ff] (by kernel_rfl) rfl rfl ⟨(blk_cell BK136.out 0).trans rfl,(blk_cell BK137.out 0).trans rfl⟩ (fun hHeld=>?_);refine with_tabW nat_number_plus.tab5 nat_number_plus.bits5 (fun HT_ HW_=>?_)
         generalize wr.drew = w50 at HO_5 BK136 BK137 BK138 HB hHeld ⊢
         refine pu (i:=0) (N:=some 20) #[tt,ff,ff,ff,ff,ff,ff,ff,ff,ff,ff,ff,ff] (any_of HT_.out (by kernel_rfl)) ?_
         refine pu (i:=1) (N:=some 21) #[tt,tt,ff,ff,ff,ff,ff,ff,ff,ff,ff,ff,ff] (any_of HT_.out (by kernel_rfl)) ?_
         refine pu (i:=2) (N:=some 22) #[tt,tt,tt,ff,ff,ff,ff,ff,ff,ff,ff,ff,ff] (any_of HT_.out (by kernel_rfl)) ?_
         refine pu (i:=4) (N:=some 24) #[tt,tt,tt,ff,tt,ff,ff,ff,ff,ff,ff,ff,ff] (any_of HT_.out (by kernel_rfl)) ?_
         refine pu (i:=6) (N:=some 26) #[tt,tt,tt,ff,tt,ff,tt,ff,ff,ff,ff,ff,ff] (any_of HT_.out (by kernel_rfl)) ?_
         refine pu (i:=8) (N:=some 28) #[tt,tt,tt,ff,tt,ff,tt,ff,tt,ff,ff,ff,ff] (any_of HT_.out (by kernel_rfl)) ?_
         refine take_ (i:=3) (N:=some 23) (v:=?_) (a':=?_) #[tt,tt,tt,tt,tt,ff,tt,ff,tt,ff,ff,ff,ff] rfl rfl (take_ofW HT_.out HW_.out (by kernel_rfl)) (fun _ _ _ h=>h) (Or.inl ⟨by rfl,?_⟩) hHeld ?_ ?_
         rotate_left
         ·rintro w' ⟨s0,s1⟩
          go_simp
          with_reducible rfl
         rotate_left
         ·simp only [Act.put,sA,sZ,sS,i64_w,i32_w]
          rfl
         refine take_ (i:=7) (N:=some 27) (v:=?_) (a':=?_) #[tt,tt,tt,tt,tt,ff,tt,tt,tt,ff,ff,ff,ff] rfl rfl (take_ofW HT_.out HW_.out (by kernel_rfl)) (fun _ _ _ h=>h) (Or.inl ⟨by rfl,?_⟩) hHeld ?_ ?_
         rotate_left
         ·rintro w' ⟨s0,s1⟩
          go_simp
          with_reducible rfl
         rotate_left
         ·simp only [Act.put,sA,sZ,sS,i64_w,i32_w]
          rfl
         refine one_ (i:=5) (N:=some 25) #[tt,tt,tt,tt,tt,tt,tt,tt,tt,ff,ff,ff,ff] rfl rfl (one_of HT_.out (by kernel_rfl)) (by decide) (fun K hK=>?_)
         refine goes_ Tryd.func43 (by kernel_rfl) rfl #[.slice A0_0 l0_0.length c0_0,.int .i64 x17_1] (by rfl) rfl rfl zl ?_
         with_reducible refine(nat_digits_at.calls _ _ l0_0 x17_1 t142 _ ?side1 ?side2 A45.out).mono ?_
         (case side1=>repeat (first | exact(Kd.C_below HR0_0.out HB.out) |(with_reducible refine Kd.C_alloc ?_ _) |(with_reducible refine Kd.C_drewN ?_ _) |(with_reducible refine Kd.C_drew ?_)))
         (case side2=>exact HC0_0.out)
         rintro e w' ⟨rfl,⟨nd,rfl⟩⟩
         refine⟨_,rfl,?_⟩
         refine hK.out _ _ ⟨(blk_cell BK136.out 0).trans rfl,(blk_cell BK137.out 0).trans rfl⟩ (fun hHeld=>?_)
         clear hK K
         refine norm_ (a':=?_) ?_ ?_
         rotate_left
         ·show Act.put _ (some 25) _ = _
          simp only [Act.put,sA,sZ,sS,i64_w,i32_w]
          rfl
         refine one_ (i:=9) (N:=some 29) #[tt,tt,tt,tt,tt,tt,tt,tt,tt,tt,ff,ff,ff] rfl rfl (one_of HT_.out (by kernel_rfl)) (by decide) (fun K hK=>?_)
         refine goes_ Tryd.func43 (by kernel_rfl) rfl #[.slice A1_0 l1_0.length c1_0,.int .i64 x17_1] (by rfl) rfl rfl zl ?_
         with_reducible refine(nat_digits_at.calls _ _ l1_0 x17_1 t143 _ ?side1 ?side2 A46.out).mono ?_
         (case side1=>repeat (first | exact(Kd.C_below HR1_0.out zb) |(with_reducible refine Kd.C_alloc ?_ _) |(with_reducible refine Kd.C_drewN ?_ _) |(with_reducible refine Kd.C_drew ?_)))
         (case side2=>exact HC1_0.out)
         rintro e w' ⟨rfl,⟨nd,rfl⟩⟩
         refine⟨_,rfl,?_⟩
         have p49 : 0≤(x17_1 : Int):=of_decide_eq_true za
         have q49 : (x17_1 : Int) < ((x5_1.length : Int) : Int):=of_decide_eq_true za
         obtain⟨go49,co49,eo49,gb49,gl49,cl49,HG49⟩:=Kd.R_form HO_5.out (by omega)
         (first | cases eo49 |(injection eo49 with ea_ en_ ec_;(first | subst ea_ |(injection ea_ with ea_;subst ea_));subst ec_;clear en_))
         have GB49:=am gb49
         have GG49:=am HG49
         clear gb49 gl49 HG49
         obtain⟨hx49_0,hf49_0⟩:=Kd.R_celln 0 HO_5.out (x17_1 : Int) p49 q49
         replace p49:=eq_true p49
         replace q49:=eq_true q49
         have HP51:=Kd.R_putn HO_5.out (x17_1 : Int) (IntKind.u64.wrap (t142 + t143))
         rw [← Ny144.out] at HP51
         have HQ51:=am HP51
         clear HP51
         refine hK.out _ _ ⟨(blk_cell BK136.out 0).trans rfl,(blk_cell BK137.out 0).trans rfl⟩ (fun hHeld=>?_)
         clear hK K
         refine norm_ (a':=?_) ?_ ?_
         rotate_left
         ·show Act.put _ (some 29) _ = _
          simp only [Act.put,sA,sZ,sS,i64_w,i32_w]
          rfl
         refine pu (i:=10) (N:=some 30) #[tt,tt,tt,tt,tt,tt,tt,tt,tt,tt,tt,ff,ff] (any_of HT_.out (by kernel_rfl)) ?_
         refine pu (i:=11) (N:=some 31) #[tt,tt,tt,tt,tt,tt,tt,tt,tt,tt,tt,tt,ff] (any_of HT_.out (by kernel_rfl)) ?_
         refine last_ (i:=12) (N:=none) #[tt,tt,tt,tt,tt,tt,tt,tt,tt,tt,tt,tt,tt] rfl rfl (one_of HT_.out (by kernel_rfl)) (by decide) (fun K hK=>?_)
         refine skip_ (w1:=?_) (by rfl) rfl ?_ ?_
         rotate_left
         ·go_simp
          rfl
         refine hK.out _ _ ?_
         clear hK K
         refine done_ (done_of HT_.out (by kernel_rfl)) ?_
         try go_wp2
         (try simp only [← hl5_1])
         go_roundg k1
         case measure=>have:=HK1.out;omega
         case rel=>exact⟨(y144),(wrap64 (x17_1 + 1)),ze,H',⟨by have:=HK1.out;omega⟩,⟨by(try simp only [hl5_1]);refine zR ?_;exact HQ51.out⟩,⟨by(try simp only [hl5_1]);refine zk ?_;refine blk_far ?_ (by have h_:=Kd.R_ne HO_5.out BK136.out (by decide);intro e_;exact h_ (by rw [e_];rfl)) _;refine zk ?_;exact BK136.out⟩,⟨by(try simp only [hl5_1]);refine zk ?_;refine blk_far ?_ (by have h_:=Kd.R_ne HO_5.out BK137.out (by decide);intro e_;exact h_ (by rw [e_];rfl)) _;refine zk ?_;exact BK137.out⟩,⟨by(try simp only [hl5_1]);refine zk ?_;refine blk_far ?_ (by have h_:=Kd.R_ne HO_5.out BK138.out (by decide);intro e_;exact h_ (by rw [e_];rfl)) _;refine zk ?_;exact BK138.out⟩,⟨by repeat (first |(with_reducible first | exact HB.out | apply below_alloc | apply pw_below_drewN | apply below_drew1 | refine below_set ?_ GB49.out | refine below_set ?_ GE136.out | refine below_set ?_ GE137.out | refine below_set ?_ GE138.out) | exact HB.out)⟩⟩
        ·rw [if_neg c48] at H
         exact absurd H (by simp)
       ·rw [if_neg c47] at H
        exact absurd H (by simp)
      ·rw [if_neg c44] at H
       have c44b0 : decide (x17_1 < (y148.length : Int)) = false:=decide_eq_false c44
       (try simp only [hl5_1] at c44b0)
       clear c44
       replace H:=Option.bind_eq_some_iff.mp H
       obtain⟨t145,A520,H⟩:=H
       try dsimp only at H
       have A52:=am A520
       clear A520
       obtain rfl:=Option.some.inj H
       go_wp2_with (first |((with_reducible refine gate_callee (f:=38) rfl ?_);refine goesL_ (some 34) rfl rfl Tryd.func38 (by kernel_rfl) rfl #[.slice Ao43 x5_1.length co43] rfl zl ?_;(with_reducible refine(nat_carried.calls k1 _ _ x5_1 t145 _ ?side1 ?side2 A52.out).mono ?_);(case side1=>exact zC (Kd.R_reads' HO_5.out).2.2);(case side2=>exact(Kd.R_reads' HO_5.out).2.1);rintro e w53 ⟨v146,rfl,ho0,hb⟩;refine⟨_,rfl,?_⟩;have HO147:=am (Kd.R_lower (Kd.R_new' ho0 (Kd.R_lt (zR HO_5.out))) (below_size zb));replace HO_5:=re HO_5 (Kd.R_base ho0) hb;replace BK136:=kb BK136 hb;replace BK137:=kb BK137 hb;replace BK138:=kb BK138 hb;replace HB:=am (below_step zb hb);(try clear hb);(try clear ho0);obtain⟨Ao54,co54,eo54⟩:=Kd.R_slice HO147.out;subst eo54;have hnb55:=NB138_136.out;have hnc55:=NB136_138.out;have hnb56:=NB138_137.out;have hnc56:=NB137_138.out;have hcz57_0 : w53.cell? ⟨gb138,0,none⟩ = some (.slice none 0 0):=(blk_cell BK138.out 0).trans rfl;have hfz57_0:=blk_frozen BK138.out 0))
       refine bodyPost_ret (results_cell_row rfl _ _ gb138 47 #[.slice Ao54 t145.length co54] (0,0) _ rfl (by refine zk ?_;refine blk_put (cs:=#[.slice none 0 0]) ?_ 0 _ rfl;refine zk ?_;exact BK138.out) Tryd.underlying47 rfl (by kernel_rfl)) rfl ?_
       exact⟨_,zf,by refine zR ?_;exact Kd.R_mono (Kd.R_far (p:=⟨gb138,0,none⟩) (Kd.R_types HO147.out BK138.out (by decide)) (fun _ hk=>hk.2) (.slice Ao54 t145.length co54)) (fun _ hk=>trivial),zb⟩
   ·rw [if_neg c32] at H
    exact absurd H (by simp)
  ·rw [if_neg c31] at H
   exact absurd H (by simp)

/-! ### nat_folded_at_nat_number_plus: function 116 -/
def nat_folded_at_nat_number_plus.l0 : Nat→List (List Int)→Int→Int→List Int→Option (List Int)
 | 0,_,_,_,_=>none
 | k + 1,x9,x10,x11,x152000=>if x11 < x10 then(if 0≤x11 then(if x11 < (x9.length : Int) then((nat_of.f k (rd_L2 x9 x11)).bind fun t153=>((nat_number_plus.f k x152000 t153).bind fun t156=>(nat_folded_at_nat_number_plus.l0 k x9 x10 (wrap64 (x11 + 1)) t156))) else(none)) else(none)) else((nat_number_row.f k x152000).bind fun t159=>(some t159))
def nat_folded_at_nat_number_plus.f (k : Nat) (l0_0 : List Int)  (l2 : List (List Int)) : Option (List Int):=nat_folded_at_nat_number_plus.l0 k l2 (l2.length : Int) 0 l0_0
theorem nat_folded_at_nat_number_plus.calls (k : Nat) (P0_0_ : Nat→Prop) (u9000_ : Value) (l0_0 : List Int)  (A2 : Option Addr) (c2 : Nat) (l2 : List (List Int)) (r : List Int) (w0 w : World) (hB : Below w0.heap.size w0 w) (ho0_0 : Kd.R (Kd.int .u64) 55 w w0.heap.size P0_0_ u9000_ l0_0) (hr2 : ∀ W_,Kept w W_ (fun k_=>P0_0_ k_)→Kd.C (Kd.slice 32 (Kd.int .u32)) W_ A2 l2.length l2) (hc2 : l2.length≤c2) (h : nat_folded_at_nat_number_plus.f k l0_0 l2 = some r) :
  Calls Tryd.prog 24 #[.agg #[u9000_],.func (.func 25) #[] #[],.slice A2 l2.length c2] w fun e w'=>∃ v0_ : Value,e = .returned (v0_)∧Kd.R (Kd.int .u32) 32 w' w0.heap.size (fun k_=>(P0_0_ k_∨w.heap.size≤k_)) v0_ r∧Below w0.heap.size w0 w'∧Kept w w' (fun k_=>P0_0_ k_):=by
 have hu47:=Tryd.underlying47
 have HO0_0:=am (show Kd.R (Kd.int .u64) 55 w w0.heap.size (fun k_=>(P0_0_ k_∨w.heap.size≤k_)) u9000_ l0_0 from Kd.R_mono ho0_0 (fun k_ hk=>(.inl hk)))
 have HR2:=am hr2
 have HC2:=am hc2
 clear hr2 hc2
 have HK:=am (Kept.refl w (fun k_=>P0_0_ k_))
 have HW0:=am hB.size
 have HB:=am hB
 clear hB
 have H : (nat_folded_at_nat_number_plus.l0 k l2 (l2.length : Int) 0 l0_0) = some r:=h
 clear h
 have H':=am H
 clear H
 obtain⟨Ao4,co4,eo4⟩:=Kd.R_slice HO0_0.out
 subst eo4
 go_enter Tryd.func24,Tryd.ntmps24
 go_wp2_with (first |((with_reducible refine gate_dst (N:=3) rfl ?_);refine box_event ?hg (N:=3) ?hd (cs:=#[.slice Ao4 l0_0.length co4]) (t:=47) ?hr ?_;(case hd=>rfl);(case hg=>rfl);(case hr=>exact zh);intro gb151 hg w5 hbox hb;replace HO0_0:=rb HO0_0 hb;have BK151:=am (hbox);have GW151:=am ((by rw [hg];exact(by first | exact HK.out.1 | exact(show Kept w _ (fun k_=>P0_0_ k_) from by repeat (first |(with_reducible first | exact HK.out | apply Kept.alloc | apply Kept.drewN | apply Kept.drew) | exact HK.out)).1) : w.heap.size≤gb151));replace HK:=am (Kept.below (S:=(fun k_=>P0_0_ k_)) (by repeat (first |(with_reducible first | exact HK.out | apply Kept.alloc | apply Kept.drewN | apply Kept.drew) | exact HK.out)) hb);have GE151:=gw w0 hg;replace HB:=am (below_step zb hb);clear hb hbox hg))
 go_loopg [11] k (fun kq v11 w'=>∃ (x11_1 : Int) (x152000_1 : List Int) (u152000 : Value),v11 = .int .i64 x11_1∧Aside0 (nat_folded_at_nat_number_plus.l0 kq l2 (l2.length : Int) x11_1 x152000_1 = some r)∧Aside0 (kq≤k)∧Aside0 (Kd.R (Kd.int .u64) 55 w' w0.heap.size (fun k_=>(P0_0_ k_∨w.heap.size≤k_)) u152000 x152000_1)∧Aside0 (w'.heap[gb151]? = some (.cells #[u152000] 47 (0,0)))∧Aside0 (Kept w w' (fun k_=>P0_0_ k_))∧Aside0 (Below w0.heap.size w0 w'))
 case atStart=>exact⟨(0),(l0_0),(.slice Ao4 l0_0.length co4),ze,H',⟨Nat.le_refl _⟩,⟨zR HO0_0.out⟩,⟨zk BK151.out⟩,⟨by repeat (first |(with_reducible first | exact HK.out | apply Kept.alloc | apply Kept.drewN | apply Kept.drew | refine Kept.setCell ?_ (.inr GW151.out) _) | exact HK.out)⟩,⟨zb⟩⟩
 case round=>
  clear H'
  try clear c2
  try clear p2
  obtain⟨x11_1,x152000_1,u152000,rfl,HA,HK1,HO_152000,BK151,HK,HB⟩:=hrel
  cases gk with
  | zero=>exact absurd HA.out (by simp [nat_folded_at_nat_number_plus.l0])
  | succ k1=>
   have H:=HA.out
   clear HA
   simp only [nat_folded_at_nat_number_plus.l0] at H
   by_cases c6 : x11_1 < (l2.length : Int)
   ·rw [if_pos c6] at H
    have c6b0 : decide (x11_1 < (l2.length : Int)) = true:=decide_eq_true c6
    clear c6
    by_cases c7 : 0≤x11_1
    ·rw [if_pos c7] at H
     have c7b0 : decide (0≤x11_1) = true:=decide_eq_true c7
     clear c7
     by_cases c8 : x11_1 < (l2.length : Int)
     ·rw [if_pos c8] at H
      have c8b0 : decide (x11_1 < (l2.length : Int)) = true:=decide_eq_true c8
      clear c8
      replace H:=Option.bind_eq_some_iff.mp H
      obtain⟨t153,A90,H⟩:=H
      try dsimp only at H
      have A9:=am A90
      clear A90
      replace H:=Option.bind_eq_some_iff.mp H
      obtain⟨t156,A100,H⟩:=H
      try dsimp only at H
      have A10:=am A100
      clear A100
      have H':=am H
      clear H
      have p152 : 0≤(x11_1 : Int):=of_decide_eq_true za
      have q152 : x11_1 < (l2.length : Int):=of_decide_eq_true za
      obtain⟨ad152,A152_0,c152_0,e152,hx152_0,hl152_0,hi152_0⟩:=at_L2 (Kd.C_kept_now HR2.out HK.out) x11_1 p152 q152
      cases e152
      have HR152_0:=am hi152_0
      have HC152_0:=am hl152_0
      clear hi152_0 hl152_0
      replace p152:=eq_true p152
      replace q152:=eq_true q152
      try go_wp2
      replace HO_152000:=am (Kd.R_drew HO_152000.out)
      replace BK151:=am (blk_drew BK151.out)
      replace HR152_0:=am (Kd.C_drew HR152_0.out)
      replace HK:=am (Kept.drew HK.out)
      replace HB:=am (below_drew1 HB.out)
      refine start_ (n:=6) (S:=fun w'=>w'.cell? ⟨gb151,0,none⟩ = some (u152000)) (ds:=[5]) #[ff,ff,ff,ff,ff,ff] (by kernel_rfl) rfl rfl ((blk_cell BK151.out 0).trans rfl) (fun hHeld=>?_)
      generalize wr.drew = w11 at HO_152000 BK151 HR152_0 HK HB hHeld ⊢
      refine pu (i:=0) (N:=some 15) #[tt,ff,ff,ff,ff,ff] (by kernel_rfl) ?_
      refine pu (i:=2) (N:=some 17) #[tt,ff,tt,ff,ff,ff] (by kernel_rfl) ?_
      refine take_ (i:=1) (N:=some 16) (v:=?_) (a':=?_) #[tt,tt,tt,ff,ff,ff] rfl rfl (by kernel_rfl) (fun _ _ _ h=>h) (Or.inl ⟨by rfl,?_⟩) hHeld ?_ ?_
      rotate_left
      ·intro w' s0
       go_simp
       with_reducible rfl
      rotate_left
      ·simp only [Act.put,sA,sZ,sS,i64_w,i32_w]
       rfl
      refine one_ (i:=3) (N:=some 18) #[tt,tt,tt,tt,ff,ff] rfl rfl (by kernel_rfl) (by decide) (fun K hK=>?_)
      refine goesV_ Tryd.func31 (by kernel_rfl) rfl #[.slice A152_0 (rd_L2 l2 x11_1).length c152_0] (by rfl) rfl ⟨_,rfl,rfl⟩ zl ?_
      with_reducible refine(nat_of.calls k1 _ _ (rd_L2 l2 x11_1) t153 _ ?side1 ?side2 A9.out).mono ?_
      (case side1=>repeat (first | exact(by repeat (first |(with_reducible exact HR152_0.out) |(with_reducible refine Kd.C_alloc ?_ _) |(with_reducible refine Kd.C_drewN ?_ _) |(with_reducible refine Kd.C_drew ?_) | exact HR152_0.out)) |(with_reducible refine Kd.C_alloc ?_ _) |(with_reducible refine Kd.C_drewN ?_ _) |(with_reducible refine Kd.C_drew ?_)))
      (case side2=>exact HC152_0.out)
      rintro e w12 ⟨v154,rfl,ho0,hb⟩
      refine⟨_,rfl,?_⟩
      have HO155:=am (Kd.R_lower (Kd.R_new' (Kd.R_newM (M:=fun k_=>(P0_0_ k_∨w.heap.size≤k_)) ho0 (by first | exact HK.out.1 | exact(show Kept w _ (fun k_=>P0_0_ k_) from by repeat (first |(with_reducible first | exact HK.out | apply Kept.alloc | apply Kept.drewN | apply Kept.drew | refine Kept.setCell ?_ (.inr GW151.out) _) | exact HK.out)).1) (fun k_ h_=>.inr h_)) (Kd.R_lt (zR HO_152000.out))) (below_size zb))
      replace HO_152000:=re HO_152000 (Kd.R_base ho0) hb
      replace BK151:=kb BK151 hb
      replace HR152_0:=am (Kd.C_below (by repeat (first |(with_reducible exact HR152_0.out) |(with_reducible refine Kd.C_alloc ?_ _) |(with_reducible refine Kd.C_drewN ?_ _) |(with_reducible refine Kd.C_drew ?_) | exact HR152_0.out)) hb)
      replace HK:=am (Kept.below (S:=(fun k_=>P0_0_ k_)) (by repeat (first |(with_reducible first | exact HK.out | apply Kept.alloc | apply Kept.drewN | apply Kept.drew | refine Kept.setCell ?_ (.inr GW151.out) _) | exact HK.out)) hb)
      replace HB:=am (below_step zb hb)
      (try clear hb)
      (try clear hb2)
      (try clear hk)
      (try clear hi)
      (try clear ho0)
      obtain⟨Ao13,co13,eo13⟩:=Kd.R_slice HO_152000.out
      (first | subst eo13 |(injection eo13 with f1_ f2_ f3_;have f4_:=f1_.symm;have f5_:=f3_.symm;clear f1_ f2_ f3_;subst f4_;subst f5_))
      obtain⟨Ao14,co14,eo14⟩:=Kd.R_slice HO155.out
      (first | subst eo14 |(injection eo14 with f1_ f2_ f3_;have f4_:=f1_.symm;have f5_:=f3_.symm;clear f1_ f2_ f3_;subst f4_;subst f5_))
      refine hK.out _ _ ((blk_cell BK151.out 0).trans rfl) (fun hHeld=>?_)
      clear hK K
      refine norm_ (a':=?_) ?_ ?_
      rotate_left
      ·show Act.put _ (some 18) _ = _
       simp only [Act.put,sA,sZ,sS,i64_w,i32_w]
       rfl
      refine one_ (i:=4) (N:=some 19) #[tt,tt,tt,tt,tt,ff] rfl rfl (by kernel_rfl) (by decide) (fun K hK=>?_)
      refine goesV_ Tryd.func25 (by kernel_rfl) rfl #[.agg #[.slice Ao13 x152000_1.length co13],.agg #[.slice Ao14 t153.length co14]] (by rfl) rfl ⟨_,rfl,rfl⟩ zl ?_
      with_reducible refine(nat_number_plus.calls k1 _ _ x152000_1 _ _ t153 t156 _ ?side1 ?side2 ?side3 ?side4 A10.out).mono ?_
      (case side1=>exact zC (Kd.R_reads' HO_152000.out).2.2)
      (case side2=>exact(Kd.R_reads' HO_152000.out).2.1)
      (case side3=>exact zC (Kd.R_reads' HO155.out).2.2)
      (case side4=>exact(Kd.R_reads' HO155.out).2.1)
      rintro e w15 ⟨v157,rfl,ho0,hb⟩
      refine⟨_,rfl,?_⟩
      have HO158:=am (Kd.R_lower (Kd.R_new' (Kd.R_new' (Kd.R_newM (M:=fun k_=>(P0_0_ k_∨w.heap.size≤k_)) ho0 (by first | exact HK.out.1 | exact(show Kept w _ (fun k_=>P0_0_ k_) from by repeat (first |(with_reducible first | exact HK.out | apply Kept.alloc | apply Kept.drewN | apply Kept.drew | refine Kept.setCell ?_ (.inr GW151.out) _) | exact HK.out)).1) (fun k_ h_=>.inr h_)) (Kd.R_lt (zR HO_152000.out))) (Kd.R_lt (zR HO155.out))) (below_size zb))
      replace HO_152000:=re HO_152000 (Kd.R_base ho0) hb
      replace HO155:=re HO155 (Kd.R_base ho0) hb
      replace BK151:=kb BK151 hb
      replace HR152_0:=am (Kd.C_below (by repeat (first |(with_reducible exact HR152_0.out) |(with_reducible refine Kd.C_alloc ?_ _) |(with_reducible refine Kd.C_drewN ?_ _) |(with_reducible refine Kd.C_drew ?_) | exact HR152_0.out)) hb)
      replace HK:=am (Kept.below (S:=(fun k_=>P0_0_ k_)) (by repeat (first |(with_reducible first | exact HK.out | apply Kept.alloc | apply Kept.drewN | apply Kept.drew | refine Kept.setCell ?_ (.inr GW151.out) _) | exact HK.out)) hb)
      replace HB:=am (below_step zb hb)
      (try clear hb)
      (try clear hb2)
      (try clear hk)
      (try clear hi)
      (try clear ho0)
      obtain⟨Ao16,co16,eo16⟩:=Kd.R_slice HO158.out
      (first | subst eo16 |(injection eo16 with f1_ f2_ f3_;have f4_:=f1_.symm;have f5_:=f3_.symm;clear f1_ f2_ f3_;subst f4_;subst f5_))
      refine hK.out _ _ ((blk_cell BK151.out 0).trans rfl) (fun hHeld=>?_)
      clear hK K
      refine norm_ (a':=?_) ?_ ?_
      rotate_left
      ·show Act.put _ (some 19) _ = _
       simp only [Act.put,sA,sZ,sS,i64_w,i32_w]
       rfl
      refine last_ (i:=5) (N:=none) #[tt,tt,tt,tt,tt,tt] rfl rfl (by kernel_rfl) (by decide) (fun K hK=>?_)
      have hs17 : w15.cell? ⟨gb151,0,none⟩ = some (.slice Ao13 x152000_1.length co13):=(blk_cell BK151.out 0).trans rfl
      have hfs17:=blk_frozen BK151.out 0
      refine skip_ (w1:=?_) (by rfl) rfl ?_ ?_
      rotate_left
      ·go_simp
       rfl
      refine hK.out _ _ ?_
      clear hK K
      refine done_ (by kernel_rfl) ?_
      try go_wp2
      go_roundg k1
      case measure=>have:=HK1.out;omega
      case rel=>exact⟨(wrap64 (x11_1 + 1)),(t156),(.slice Ao16 t156.length co16),ze,H',⟨by have:=HK1.out;omega⟩,⟨by refine zR ?_;exact Kd.R_mono (Kd.R_far (p:=⟨gb151,0,none⟩) (Kd.R_types HO158.out BK151.out (by decide)) (fun _ hk=>hk.2) (.slice Ao16 t156.length co16)) (fun _ hk=>hk.1.1.1.1)⟩,⟨by refine zk ?_;refine blk_put (cs:=#[.slice Ao13 x152000_1.length co13]) ?_ 0 _ rfl;refine zk ?_;exact BK151.out⟩,⟨by repeat (first |(with_reducible first | exact HK.out | apply Kept.alloc | apply Kept.drewN | apply Kept.drew | refine Kept.setCell ?_ (.inr GW151.out) _) | exact HK.out)⟩,⟨zb⟩⟩
     ·rw [if_neg c8] at H
      exact absurd H (by simp)
    ·rw [if_neg c7] at H
     exact absurd H (by simp)
   ·rw [if_neg c6] at H
    have c6b0 : decide (x11_1 < (l2.length : Int)) = false:=decide_eq_false c6
    clear c6
    replace H:=Option.bind_eq_some_iff.mp H
    obtain⟨t159,A180,H⟩:=H
    try dsimp only at H
    have A18:=am A180
    clear A180
    obtain rfl:=Option.some.inj H
    have hcz19_0 : wr.cell? ⟨gb151,0,none⟩ = some (u152000):=(blk_cell BK151.out 0).trans rfl
    have hfz19_0:=blk_frozen BK151.out 0
    obtain⟨Ao20,co20,eo20⟩:=Kd.R_slice HO_152000.out
    subst eo20
    go_wp2_with (first |((with_reducible refine gate_dst (N:=22) rfl ?_);refine goesLV_ (some 22) rfl rfl Tryd.func34 (by kernel_rfl) rfl #[.agg #[.slice Ao20 x152000_1.length co20]] ⟨_,rfl,rfl⟩ zl ?_;(with_reducible refine(nat_number_row.calls k1 _ _ x152000_1 t159 _ ?side1 ?side2 A18.out).mono ?_);(case side1=>exact zC (Kd.R_reads' HO_152000.out).2.2);(case side2=>exact(Kd.R_reads' HO_152000.out).2.1);rintro e w21 ⟨v160,rfl,ho0,hb⟩;refine⟨_,rfl,?_⟩;replace HO_152000:=rb HO_152000 hb;have HO161:=am (Kd.R_lower (Kd.R_newM (M:=fun k_=>(P0_0_ k_∨w.heap.size≤k_)) ho0 (by first | exact HK.out.1 | exact(show Kept w _ (fun k_=>P0_0_ k_) from by repeat (first |(with_reducible first | exact HK.out | apply Kept.alloc | apply Kept.drewN | apply Kept.drew | refine Kept.setCell ?_ (.inr GW151.out) _) | exact HK.out)).1) (fun k_ h_=>.inr h_)) (below_size zb));replace BK151:=kb BK151 hb;replace HK:=am (Kept.below (S:=(fun k_=>P0_0_ k_)) (by repeat (first |(with_reducible first | exact HK.out | apply Kept.alloc | apply Kept.drewN | apply Kept.drew | refine Kept.setCell ?_ (.inr GW151.out) _) | exact HK.out)) hb);replace HB:=am (below_step zb hb);(try clear hb);(try clear ho0)))
    go_ret
    exact⟨_,zf,by refine zR ?_;exact Kd.R_mono HO161.out (fun _ hk=>hk.1),zb,by repeat (first |(with_reducible first | exact HK.out | apply Kept.alloc | apply Kept.drewN | apply Kept.drew | refine Kept.setCell ?_ (.inr GW151.out) _) | exact HK.out)⟩

end Go.Proofs.YtnkkndninilciaaDoor.X

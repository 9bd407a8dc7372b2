/- What is left of NumTexts, without Go: the program's Parse and Of tell what the reference's tell. -/
import Derived.Test.YtcbohpmdeboeoaaGreatDoorRRM
import Derived.Test.YtcbohpmdeboeoaaGreatDoorRRX16
namespace Go.Proofs.YtcbohpmdeboeoaaGreatDoorRR.Pure
open Go.RowKit Go.Proofs.YtcbohpmdeboeoaaGreatDoorRR.M Go.Proofs.YtcbohpmdeboeoaaGreatDoorRR.X Go.Proofs.YtcbohpmdeboeoaaGreatDoorRRW.PrintWords Go.Proofs.YtcbohpmdeboeoaaGreatDoorRRW.PrintLast Go.Proofs.YtcbohpmdeboeoaaGreatDoorRRW.PrintMore
theorem i64_wf {x : Int} (h : (Lit.int .i64 x).wf = true) : -9223372036854775808≤x∧x < 9223372036854775808:=by
 have h' : IntKind.i64.min≤x∧x≤IntKind.i64.max:=by simpa [Lit.wf] using h
 rw [show IntKind.i64.min = -9223372036854775808 from rfl,show IntKind.i64.max = 9223372036854775807 from rfl] at h'
 omega
theorem NumTexts : ∀ (a0 : ByteArray) (a1 : Int),a0.size≤maxLen→(Lit.int .i64 a1).wf = true→∃ k,whetstonelaw02_NumTexts.f k a0 a1 = some true:=by
 intro s z hs hz
 obtain⟨z0,z1⟩:=i64_wf hz
 refine Ev.rounds (g:=fun k=>whetstonelaw02_NumTexts.f k s z) ?_
 unfold whetstonelaw02_NumTexts.f
 by_cases h : (s.size : Int) > 4000
 ·exact Ev.congr (fun k=>if_pos h) (Ev.bind awake_f (Ev.now _))
 ·refine Ev.congr (fun k=>if_neg h) ?_
  have hp:=nParse_f s (by omega)
  have hr:=rParse_f s (by omega)
  have hl : (rP s).2.1.length≤1000000000:=by
   unfold rP
   by_cases ho : okP s = true
   ·rw [if_pos ho]
    show(D9 (vP s).natAbs).length≤_
    unfold vP
    rw [mk_abs]
    have h1 : okNum (un s) = true:=by unfold okP at ho;simp only [Bool.and_eq_true] at ho;exact ho.1
    have h2:=dv_len h1
    have h3:=un_size s
    omega
   ·rw [if_neg ho];simp
  have hs:=nsame_f (rP s).1 (rP s).2.1 (rP s).1 (rP s).2.1 hl
  rw [decide_eq_true rfl] at hs
  have ho:=nOf_f z z0 z1
  have hq:=rOf2_f z z0 z1
  have hx : (D9 z.natAbs).length≤3:=D9_u64 (by omega)
  have ht:=nsame_az z z (by show(D9 z.natAbs).length≤_;omega)
  rw [decide_eq_true rfl] at ht
  exact Ev.bind hp (Ev.bind hr (Ev.congr (fun k=>if_pos (by simp)) (Ev.bind hs (Ev.congr (fun k=>if_pos rfl) (Ev.bind ho (Ev.bind hq (Ev.bind ht (Ev.congr (fun k=>if_pos rfl) (Ev.bind awake_f (Ev.now _))))))))))
end Go.Proofs.YtcbohpmdeboeoaaGreatDoorRR.Pure

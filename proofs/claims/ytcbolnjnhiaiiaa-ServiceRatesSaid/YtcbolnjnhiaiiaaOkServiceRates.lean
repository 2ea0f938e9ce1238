/- The law's own function; written by sym.py. -/
import Derived.Test.YtcbolnjnhiaiiaaOk2
namespace Go.Sh
open Go Go.Eng Go.Proofs
set_option linter.unusedVariables false
set_option linter.unusedSimpArgs false
set_option maxRecDepth 100000
/- isochronlaw30.ServiceRates -/
theorem law30_ServiceRates_ok (N : Nat) (a0_ : ref30_Draft) (a1_ : api_Gates) (a2_ : Int) (a3_ : Int) (r : Bool) (h : law30_ServiceRates N a0_ a1_ a2_ a3_ = some r) : PCall Try.prog 5 [.agg (c_ref30_Draft a0_), .agg (c_api_Gates a1_), iv a2_, iv a3_] (bv r) := by
  unfold law30_ServiceRates at h
  have hH : HP ([] : List HO) [] := trivial
  refine pcall_of chk5 rfl rfl (vc_sound _ _ _ ?_) rfl
  refine vc_seq ?_
  refine vc_reg (S := ⟨[(2, iv a2_), (3, iv a3_), (4, .loc 4 0), (5, .loc 5 0)], [(4, (c_ref30_Draft a0_)), (5, (c_api_Gates a1_))], []⟩) (APath.fin (by kernel_rfl)) (by kernel_rfl) ?_
  refine vc_seq ?_
  refine vc_seq ?_
  obtain ⟨r1, hr1, h⟩ := bind_some h
  obtain ⟨r2, hr2, h⟩ := bind_some h
  refine vc_regD (S := ⟨[(2, iv a2_), (3, iv a3_), (21, .agg [s_e_api_Entry false r1.Entries, iv r1.Cycle, s_e_api_Entry false r2.Entries, iv r2.Cycle]), (22, iv 0)], [], []⟩) (by kernel_rfl) (APath.chunk 1 (by kernel_rfl) (APath.one (.callP 18 10 [.t 17]) (by kernel_rfl) (st_callP (by kernel_rfl) (ref30_Draft_Gates_ok N a0_ r1 hr1)) (APath.chunk 1 (by kernel_rfl) (APath.one (.callP 20 11 [.t 19]) (by kernel_rfl) (st_callP (by kernel_rfl) (law30_few_ok N a1_ r2 hr2)) (APath.fin (by kernel_rfl)))))) (by kernel_rfl) ?_
  refine vc_block ?_
  refine vc_unroll 14 ?_
  refine unr_step ?_
  refine vc_seq ?_
  refine vc_reg (S := ⟨[(2, iv a2_), (3, iv a3_), (21, .agg [s_e_api_Entry false r1.Entries, iv r1.Cycle, s_e_api_Entry false r2.Entries, iv r2.Cycle]), (22, iv 0), (23, bv true)], [], []⟩) (APath.fin (by kernel_rfl)) (by kernel_rfl) ?_
  refine vc_seq ?_
  refine vc_true (by kernel_rfl) ?_
  refine vc_skip ?_
  refine vc_kp ?_
  refine vc_seq ?_
  refine vc_block ?_
  refine vc_seq ?_
  refine vc_reg (S := ⟨[(2, iv a2_), (3, iv a3_), (10, .loc 10 0), (21, .agg [s_e_api_Entry false r1.Entries, iv r1.Cycle, s_e_api_Entry false r2.Entries, iv r2.Cycle]), (22, iv 0)], [(10, (c_api_Gates r1))], []⟩) (APath.fin (by kernel_rfl)) (by kernel_rfl) ?_
  refine vc_seq ?_
  refine vc_reg (S := ⟨[(2, iv a2_), (3, iv a3_), (10, .loc 10 0), (21, .agg [s_e_api_Entry false r1.Entries, iv r1.Cycle, s_e_api_Entry false r2.Entries, iv r2.Cycle]), (22, iv 0), (40, .agg [iv a2_, iv a3_, iv (w64 (1 + (w64 ((Int.tmod (IntKind.u64.wrap (a2_)) 4))))), iv (w64 (84 + (w64 ((Int.tmod (IntKind.u64.wrap (a3_)) 100))))), iv 1, iv 84]), (41, iv 0)], [(10, (c_api_Gates r1))], []⟩) (APath.fin (by kernel_rfl)) (by kernel_rfl) ?_
  refine vc_block ?_
  refine vc_unroll 14 ?_
  refine unr_step ?_
  refine vc_seq ?_
  refine vc_reg (S := ⟨[(2, iv a2_), (3, iv a3_), (10, .loc 10 0), (21, .agg [s_e_api_Entry false r1.Entries, iv r1.Cycle, s_e_api_Entry false r2.Entries, iv r2.Cycle]), (22, iv 0), (40, .agg [iv a2_, iv a3_, iv (w64 (1 + (w64 ((Int.tmod (IntKind.u64.wrap (a2_)) 4))))), iv (w64 (84 + (w64 ((Int.tmod (IntKind.u64.wrap (a3_)) 100))))), iv 1, iv 84]), (41, iv 0), (42, bv true)], [(10, (c_api_Gates r1))], []⟩) (APath.fin (by kernel_rfl)) (by kernel_rfl) ?_
  refine vc_seq ?_
  refine vc_true (by kernel_rfl) ?_
  refine vc_skip ?_
  refine vc_kp ?_
  refine vc_seq ?_
  refine vc_block ?_
  refine vc_seq ?_
  refine vc_reg (S := ⟨[(2, iv a2_), (3, iv a3_), (10, .loc 10 0), (12, .loc 12 0), (21, .agg [s_e_api_Entry false r1.Entries, iv r1.Cycle, s_e_api_Entry false r2.Entries, iv r2.Cycle]), (22, iv 0), (40, .agg [iv a2_, iv a3_, iv (w64 (1 + (w64 ((Int.tmod (IntKind.u64.wrap (a2_)) 4))))), iv (w64 (84 + (w64 ((Int.tmod (IntKind.u64.wrap (a3_)) 100))))), iv 1, iv 84]), (41, iv 0)], [(10, (c_api_Gates r1)), (12, [iv a2_, iv a3_])], []⟩) (APath.fin (by kernel_rfl)) (by kernel_rfl) ?_
  refine vc_seq ?_
  obtain ⟨r3, hr3, h⟩ := bind_some h
  refine vc_reg (S := ⟨[(2, iv a2_), (3, iv a3_), (10, .loc 10 0), (12, .loc 12 0), (13, .loc 13 0), (14, iv r3.2), (21, .agg [s_e_api_Entry false r1.Entries, iv r1.Cycle, s_e_api_Entry false r2.Entries, iv r2.Cycle]), (22, iv 0), (40, .agg [iv a2_, iv a3_, iv (w64 (1 + (w64 ((Int.tmod (IntKind.u64.wrap (a2_)) 4))))), iv (w64 (84 + (w64 ((Int.tmod (IntKind.u64.wrap (a3_)) 100))))), iv 1, iv 84]), (41, iv 0)], [(10, (c_api_Gates r1)), (12, [iv a2_, iv a3_]), (13, (c_api_Serve r3.1))], []⟩) (APath.chunk 5 (by kernel_rfl) (APath.one (.call (some 50) 17 [.t 45, .t 47, .t 49]) (by kernel_rfl) (st_call (by kernel_rfl) (service_Of_ok N r1 a2_ a3_ r3 hr3)) (APath.fin (by kernel_rfl)))) (by kernel_rfl) ?_
  refine vc_seq ?_
  obtain ⟨r4, hr4, h⟩ := bind_some h
  refine vc_reg (S := ⟨[(2, iv a2_), (3, iv a3_), (10, .loc 10 0), (13, .loc 13 0), (14, iv r3.2), (15, .loc 15 0), (16, iv r4.2), (21, .agg [s_e_api_Entry false r1.Entries, iv r1.Cycle, s_e_api_Entry false r2.Entries, iv r2.Cycle]), (22, iv 0), (40, .agg [iv a2_, iv a3_, iv (w64 (1 + (w64 ((Int.tmod (IntKind.u64.wrap (a2_)) 4))))), iv (w64 (84 + (w64 ((Int.tmod (IntKind.u64.wrap (a3_)) 100))))), iv 1, iv 84]), (41, iv 0)], [(10, (c_api_Gates r1)), (13, (c_api_Serve r3.1)), (15, (c_api_Serve r4.1))], []⟩) (APath.chunk 5 (by kernel_rfl) (APath.one (.call (some 59) 18 [.t 54, .t 56, .t 58]) (by kernel_rfl) (st_call (by kernel_rfl) (ref30_Of_ok N r1 a2_ a3_ r4 hr4)) (APath.fin (by kernel_rfl)))) (by kernel_rfl) ?_
  refine vc_seq ?_
  refine vc_regX ⟨[(2, iv a2_), (3, iv a3_), (10, .loc 10 0), (21, .agg [s_e_api_Entry false r1.Entries, iv r1.Cycle, s_e_api_Entry false r2.Entries, iv r2.Cycle]), (22, iv 0), (40, .agg [iv a2_, iv a3_, iv (w64 (1 + (w64 ((Int.tmod (IntKind.u64.wrap (a2_)) 4))))), iv (w64 (84 + (w64 ((Int.tmod (IntKind.u64.wrap (a3_)) 100))))), iv 1, iv 84]), (41, iv 0), (69, bv ((!((r3.1.Rate == r4.1.Rate) && ((r3.1.Latency == r4.1.Latency) && true))) || (r3.2 != r4.2)))], [(10, (c_api_Gates r1))], []⟩ ?_ ?_
  · rcases Bool.eq_false_or_eq_true (!((r3.1.Rate == r4.1.Rate) && ((r3.1.Latency == r4.1.Latency) && true))) with hc5 | hc6
    · exact ⟨_, (APath.chunk 2 (by kernel_rfl) (APath.one (.val 64 (.eqS true [true, true]) [.t 62, .t 63]) (by kernel_rfl) (st_bool (c := (!((r3.1.Rate == r4.1.Rate) && ((r3.1.Latency == r4.1.Latency) && true)))) (by kernel_rfl) hc5) (APath.fin (by kernel_rfl)))), by simp only [hc5]; kernel_rfl⟩
    · exact ⟨_, (APath.chunk 2 (by kernel_rfl) (APath.one (.val 64 (.eqS true [true, true]) [.t 62, .t 63]) (by kernel_rfl) (st_bool (c := (!((r3.1.Rate == r4.1.Rate) && ((r3.1.Latency == r4.1.Latency) && true)))) (by kernel_rfl) hc6) (APath.fin (by kernel_rfl)))), by simp only [hc6]; kernel_rfl⟩
  · refine vc_ite (by kernel_rfl) h (fun hc7 h => ?_) (fun hc7 h => ?_)
    · refine vc_seq ?_
      refine vc_reg (S := ⟨[(8, bv false)], [], []⟩) (APath.fin (by kernel_rfl)) (by kernel_rfl) ?_
      refine vc_ret ?_
      obtain rfl := some_inj h
      exact ret_of (by kernel_rfl)
    · refine vc_skip ?_
      refine vc_kp ?_
      refine vc_reg (S := ⟨[(2, iv a2_), (3, iv a3_), (10, .loc 10 0), (21, .agg [s_e_api_Entry false r1.Entries, iv r1.Cycle, s_e_api_Entry false r2.Entries, iv r2.Cycle]), (22, iv 0), (40, .agg [iv a2_, iv a3_, iv (w64 (1 + (w64 ((Int.tmod (IntKind.u64.wrap (a2_)) 4))))), iv (w64 (84 + (w64 ((Int.tmod (IntKind.u64.wrap (a3_)) 100))))), iv 1, iv 84]), (41, iv 1)], [(10, (c_api_Gates r1))], []⟩) (APath.fin (by kernel_rfl)) (by kernel_rfl) ?_
      refine unr_step ?_
      refine vc_seq ?_
      refine vc_reg (S := ⟨[(2, iv a2_), (3, iv a3_), (10, .loc 10 0), (21, .agg [s_e_api_Entry false r1.Entries, iv r1.Cycle, s_e_api_Entry false r2.Entries, iv r2.Cycle]), (22, iv 0), (40, .agg [iv a2_, iv a3_, iv (w64 (1 + (w64 ((Int.tmod (IntKind.u64.wrap (a2_)) 4))))), iv (w64 (84 + (w64 ((Int.tmod (IntKind.u64.wrap (a3_)) 100))))), iv 1, iv 84]), (41, iv 1), (42, bv true)], [(10, (c_api_Gates r1))], []⟩) (APath.fin (by kernel_rfl)) (by kernel_rfl) ?_
      refine vc_seq ?_
      refine vc_true (by kernel_rfl) ?_
      refine vc_skip ?_
      refine vc_kp ?_
      refine vc_seq ?_
      refine vc_block ?_
      refine vc_seq ?_
      refine vc_reg (S := ⟨[(2, iv a2_), (3, iv a3_), (10, .loc 10 0), (12, .loc 12 0), (21, .agg [s_e_api_Entry false r1.Entries, iv r1.Cycle, s_e_api_Entry false r2.Entries, iv r2.Cycle]), (22, iv 0), (40, .agg [iv a2_, iv a3_, iv (w64 (1 + (w64 ((Int.tmod (IntKind.u64.wrap (a2_)) 4))))), iv (w64 (84 + (w64 ((Int.tmod (IntKind.u64.wrap (a3_)) 100))))), iv 1, iv 84]), (41, iv 1)], [(10, (c_api_Gates r1)), (12, [iv (w64 (1 + (w64 ((Int.tmod (IntKind.u64.wrap (a2_)) 4))))), iv (w64 (84 + (w64 ((Int.tmod (IntKind.u64.wrap (a3_)) 100)))))])], []⟩) (APath.fin (by kernel_rfl)) (by kernel_rfl) ?_
      refine vc_seq ?_
      obtain ⟨r8, hr8, h⟩ := bind_some h
      refine vc_reg (S := ⟨[(2, iv a2_), (3, iv a3_), (10, .loc 10 0), (12, .loc 12 0), (13, .loc 13 0), (14, iv r8.2), (21, .agg [s_e_api_Entry false r1.Entries, iv r1.Cycle, s_e_api_Entry false r2.Entries, iv r2.Cycle]), (22, iv 0), (40, .agg [iv a2_, iv a3_, iv (w64 (1 + (w64 ((Int.tmod (IntKind.u64.wrap (a2_)) 4))))), iv (w64 (84 + (w64 ((Int.tmod (IntKind.u64.wrap (a3_)) 100))))), iv 1, iv 84]), (41, iv 1)], [(10, (c_api_Gates r1)), (12, [iv (w64 (1 + (w64 ((Int.tmod (IntKind.u64.wrap (a2_)) 4))))), iv (w64 (84 + (w64 ((Int.tmod (IntKind.u64.wrap (a3_)) 100)))))]), (13, (c_api_Serve r8.1))], []⟩) (APath.chunk 5 (by kernel_rfl) (APath.one (.call (some 50) 17 [.t 45, .t 47, .t 49]) (by kernel_rfl) (st_call (by kernel_rfl) (service_Of_ok N r1 (w64 (1 + (w64 ((Int.tmod (IntKind.u64.wrap (a2_)) 4))))) (w64 (84 + (w64 ((Int.tmod (IntKind.u64.wrap (a3_)) 100))))) r8 hr8)) (APath.fin (by kernel_rfl)))) (by kernel_rfl) ?_
      refine vc_seq ?_
      obtain ⟨r9, hr9, h⟩ := bind_some h
      refine vc_reg (S := ⟨[(2, iv a2_), (3, iv a3_), (10, .loc 10 0), (13, .loc 13 0), (14, iv r8.2), (15, .loc 15 0), (16, iv r9.2), (21, .agg [s_e_api_Entry false r1.Entries, iv r1.Cycle, s_e_api_Entry false r2.Entries, iv r2.Cycle]), (22, iv 0), (40, .agg [iv a2_, iv a3_, iv (w64 (1 + (w64 ((Int.tmod (IntKind.u64.wrap (a2_)) 4))))), iv (w64 (84 + (w64 ((Int.tmod (IntKind.u64.wrap (a3_)) 100))))), iv 1, iv 84]), (41, iv 1)], [(10, (c_api_Gates r1)), (13, (c_api_Serve r8.1)), (15, (c_api_Serve r9.1))], []⟩) (APath.chunk 5 (by kernel_rfl) (APath.one (.call (some 59) 18 [.t 54, .t 56, .t 58]) (by kernel_rfl) (st_call (by kernel_rfl) (ref30_Of_ok N r1 (w64 (1 + (w64 ((Int.tmod (IntKind.u64.wrap (a2_)) 4))))) (w64 (84 + (w64 ((Int.tmod (IntKind.u64.wrap (a3_)) 100))))) r9 hr9)) (APath.fin (by kernel_rfl)))) (by kernel_rfl) ?_
      refine vc_seq ?_
      refine vc_regX ⟨[(2, iv a2_), (3, iv a3_), (10, .loc 10 0), (21, .agg [s_e_api_Entry false r1.Entries, iv r1.Cycle, s_e_api_Entry false r2.Entries, iv r2.Cycle]), (22, iv 0), (40, .agg [iv a2_, iv a3_, iv (w64 (1 + (w64 ((Int.tmod (IntKind.u64.wrap (a2_)) 4))))), iv (w64 (84 + (w64 ((Int.tmod (IntKind.u64.wrap (a3_)) 100))))), iv 1, iv 84]), (41, iv 1), (69, bv ((!((r8.1.Rate == r9.1.Rate) && ((r8.1.Latency == r9.1.Latency) && true))) || (r8.2 != r9.2)))], [(10, (c_api_Gates r1))], []⟩ ?_ ?_
      · rcases Bool.eq_false_or_eq_true (!((r8.1.Rate == r9.1.Rate) && ((r8.1.Latency == r9.1.Latency) && true))) with hc10 | hc11
        · exact ⟨_, (APath.chunk 2 (by kernel_rfl) (APath.one (.val 64 (.eqS true [true, true]) [.t 62, .t 63]) (by kernel_rfl) (st_bool (c := (!((r8.1.Rate == r9.1.Rate) && ((r8.1.Latency == r9.1.Latency) && true)))) (by kernel_rfl) hc10) (APath.fin (by kernel_rfl)))), by simp only [hc10]; kernel_rfl⟩
        · exact ⟨_, (APath.chunk 2 (by kernel_rfl) (APath.one (.val 64 (.eqS true [true, true]) [.t 62, .t 63]) (by kernel_rfl) (st_bool (c := (!((r8.1.Rate == r9.1.Rate) && ((r8.1.Latency == r9.1.Latency) && true)))) (by kernel_rfl) hc11) (APath.fin (by kernel_rfl)))), by simp only [hc11]; kernel_rfl⟩
      · refine vc_ite (by kernel_rfl) h (fun hc12 h => ?_) (fun hc12 h => ?_)
        · refine vc_seq ?_
          refine vc_reg (S := ⟨[(8, bv false)], [], []⟩) (APath.fin (by kernel_rfl)) (by kernel_rfl) ?_
          refine vc_ret ?_
          obtain rfl := some_inj h
          exact ret_of (by kernel_rfl)
        · refine vc_skip ?_
          refine vc_kp ?_
          refine vc_reg (S := ⟨[(2, iv a2_), (3, iv a3_), (10, .loc 10 0), (21, .agg [s_e_api_Entry false r1.Entries, iv r1.Cycle, s_e_api_Entry false r2.Entries, iv r2.Cycle]), (22, iv 0), (40, .agg [iv a2_, iv a3_, iv (w64 (1 + (w64 ((Int.tmod (IntKind.u64.wrap (a2_)) 4))))), iv (w64 (84 + (w64 ((Int.tmod (IntKind.u64.wrap (a3_)) 100))))), iv 1, iv 84]), (41, iv 2)], [(10, (c_api_Gates r1))], []⟩) (APath.fin (by kernel_rfl)) (by kernel_rfl) ?_
          refine unr_step ?_
          refine vc_seq ?_
          refine vc_reg (S := ⟨[(2, iv a2_), (3, iv a3_), (10, .loc 10 0), (21, .agg [s_e_api_Entry false r1.Entries, iv r1.Cycle, s_e_api_Entry false r2.Entries, iv r2.Cycle]), (22, iv 0), (40, .agg [iv a2_, iv a3_, iv (w64 (1 + (w64 ((Int.tmod (IntKind.u64.wrap (a2_)) 4))))), iv (w64 (84 + (w64 ((Int.tmod (IntKind.u64.wrap (a3_)) 100))))), iv 1, iv 84]), (41, iv 2), (42, bv true)], [(10, (c_api_Gates r1))], []⟩) (APath.fin (by kernel_rfl)) (by kernel_rfl) ?_
          refine vc_seq ?_
          refine vc_true (by kernel_rfl) ?_
          refine vc_skip ?_
          refine vc_kp ?_
          refine vc_seq ?_
          refine vc_block ?_
          refine vc_seq ?_
          refine vc_reg (S := ⟨[(2, iv a2_), (3, iv a3_), (10, .loc 10 0), (12, .loc 12 0), (21, .agg [s_e_api_Entry false r1.Entries, iv r1.Cycle, s_e_api_Entry false r2.Entries, iv r2.Cycle]), (22, iv 0), (40, .agg [iv a2_, iv a3_, iv (w64 (1 + (w64 ((Int.tmod (IntKind.u64.wrap (a2_)) 4))))), iv (w64 (84 + (w64 ((Int.tmod (IntKind.u64.wrap (a3_)) 100))))), iv 1, iv 84]), (41, iv 2)], [(10, (c_api_Gates r1)), (12, [iv 1, iv 84])], []⟩) (APath.fin (by kernel_rfl)) (by kernel_rfl) ?_
          refine vc_seq ?_
          obtain ⟨r13, hr13, h⟩ := bind_some h
          refine vc_reg (S := ⟨[(2, iv a2_), (3, iv a3_), (10, .loc 10 0), (12, .loc 12 0), (13, .loc 13 0), (14, iv r13.2), (21, .agg [s_e_api_Entry false r1.Entries, iv r1.Cycle, s_e_api_Entry false r2.Entries, iv r2.Cycle]), (22, iv 0), (40, .agg [iv a2_, iv a3_, iv (w64 (1 + (w64 ((Int.tmod (IntKind.u64.wrap (a2_)) 4))))), iv (w64 (84 + (w64 ((Int.tmod (IntKind.u64.wrap (a3_)) 100))))), iv 1, iv 84]), (41, iv 2)], [(10, (c_api_Gates r1)), (12, [iv 1, iv 84]), (13, (c_api_Serve r13.1))], []⟩) (APath.chunk 5 (by kernel_rfl) (APath.one (.call (some 50) 17 [.t 45, .t 47, .t 49]) (by kernel_rfl) (st_call (by kernel_rfl) (service_Of_ok N r1 1 84 r13 hr13)) (APath.fin (by kernel_rfl)))) (by kernel_rfl) ?_
          refine vc_seq ?_
          obtain ⟨r14, hr14, h⟩ := bind_some h
          refine vc_reg (S := ⟨[(2, iv a2_), (3, iv a3_), (10, .loc 10 0), (13, .loc 13 0), (14, iv r13.2), (15, .loc 15 0), (16, iv r14.2), (21, .agg [s_e_api_Entry false r1.Entries, iv r1.Cycle, s_e_api_Entry false r2.Entries, iv r2.Cycle]), (22, iv 0), (40, .agg [iv a2_, iv a3_, iv (w64 (1 + (w64 ((Int.tmod (IntKind.u64.wrap (a2_)) 4))))), iv (w64 (84 + (w64 ((Int.tmod (IntKind.u64.wrap (a3_)) 100))))), iv 1, iv 84]), (41, iv 2)], [(10, (c_api_Gates r1)), (13, (c_api_Serve r13.1)), (15, (c_api_Serve r14.1))], []⟩) (APath.chunk 5 (by kernel_rfl) (APath.one (.call (some 59) 18 [.t 54, .t 56, .t 58]) (by kernel_rfl) (st_call (by kernel_rfl) (ref30_Of_ok N r1 1 84 r14 hr14)) (APath.fin (by kernel_rfl)))) (by kernel_rfl) ?_
          refine vc_seq ?_
          refine vc_regX ⟨[(2, iv a2_), (3, iv a3_), (10, .loc 10 0), (21, .agg [s_e_api_Entry false r1.Entries, iv r1.Cycle, s_e_api_Entry false r2.Entries, iv r2.Cycle]), (22, iv 0), (40, .agg [iv a2_, iv a3_, iv (w64 (1 + (w64 ((Int.tmod (IntKind.u64.wrap (a2_)) 4))))), iv (w64 (84 + (w64 ((Int.tmod (IntKind.u64.wrap (a3_)) 100))))), iv 1, iv 84]), (41, iv 2), (69, bv ((!((r13.1.Rate == r14.1.Rate) && ((r13.1.Latency == r14.1.Latency) && true))) || (r13.2 != r14.2)))], [(10, (c_api_Gates r1))], []⟩ ?_ ?_
          · rcases Bool.eq_false_or_eq_true (!((r13.1.Rate == r14.1.Rate) && ((r13.1.Latency == r14.1.Latency) && true))) with hc15 | hc16
            · exact ⟨_, (APath.chunk 2 (by kernel_rfl) (APath.one (.val 64 (.eqS true [true, true]) [.t 62, .t 63]) (by kernel_rfl) (st_bool (c := (!((r13.1.Rate == r14.1.Rate) && ((r13.1.Latency == r14.1.Latency) && true)))) (by kernel_rfl) hc15) (APath.fin (by kernel_rfl)))), by simp only [hc15]; kernel_rfl⟩
            · exact ⟨_, (APath.chunk 2 (by kernel_rfl) (APath.one (.val 64 (.eqS true [true, true]) [.t 62, .t 63]) (by kernel_rfl) (st_bool (c := (!((r13.1.Rate == r14.1.Rate) && ((r13.1.Latency == r14.1.Latency) && true)))) (by kernel_rfl) hc16) (APath.fin (by kernel_rfl)))), by simp only [hc16]; kernel_rfl⟩
          · refine vc_ite (by kernel_rfl) h (fun hc17 h => ?_) (fun hc17 h => ?_)
            · refine vc_seq ?_
              refine vc_reg (S := ⟨[(8, bv false)], [], []⟩) (APath.fin (by kernel_rfl)) (by kernel_rfl) ?_
              refine vc_ret ?_
              obtain rfl := some_inj h
              exact ret_of (by kernel_rfl)
            · refine vc_skip ?_
              refine vc_kp ?_
              refine vc_reg (S := ⟨[(2, iv a2_), (3, iv a3_), (10, .loc 10 0), (21, .agg [s_e_api_Entry false r1.Entries, iv r1.Cycle, s_e_api_Entry false r2.Entries, iv r2.Cycle]), (22, iv 0), (40, .agg [iv a2_, iv a3_, iv (w64 (1 + (w64 ((Int.tmod (IntKind.u64.wrap (a2_)) 4))))), iv (w64 (84 + (w64 ((Int.tmod (IntKind.u64.wrap (a3_)) 100))))), iv 1, iv 84]), (41, iv 3)], [(10, (c_api_Gates r1))], []⟩) (APath.fin (by kernel_rfl)) (by kernel_rfl) ?_
              refine unr_step ?_
              refine vc_seq ?_
              refine vc_reg (S := ⟨[(2, iv a2_), (3, iv a3_), (10, .loc 10 0), (21, .agg [s_e_api_Entry false r1.Entries, iv r1.Cycle, s_e_api_Entry false r2.Entries, iv r2.Cycle]), (22, iv 0), (40, .agg [iv a2_, iv a3_, iv (w64 (1 + (w64 ((Int.tmod (IntKind.u64.wrap (a2_)) 4))))), iv (w64 (84 + (w64 ((Int.tmod (IntKind.u64.wrap (a3_)) 100))))), iv 1, iv 84]), (41, iv 3), (42, bv false)], [(10, (c_api_Gates r1))], []⟩) (APath.fin (by kernel_rfl)) (by kernel_rfl) ?_
              refine vc_seq ?_
              refine vc_false (by kernel_rfl) ?_
              refine vc_exit ?_
              try show vc _ _ _ _ _
              refine vc_reg (S := ⟨[(2, iv a2_), (3, iv a3_), (21, .agg [s_e_api_Entry false r1.Entries, iv r1.Cycle, s_e_api_Entry false r2.Entries, iv r2.Cycle]), (22, iv 1)], [], []⟩) (APath.fin (by kernel_rfl)) (by kernel_rfl) ?_
              refine unr_step ?_
              refine vc_seq ?_
              refine vc_reg (S := ⟨[(2, iv a2_), (3, iv a3_), (21, .agg [s_e_api_Entry false r1.Entries, iv r1.Cycle, s_e_api_Entry false r2.Entries, iv r2.Cycle]), (22, iv 1), (23, bv true)], [], []⟩) (APath.fin (by kernel_rfl)) (by kernel_rfl) ?_
              refine vc_seq ?_
              refine vc_true (by kernel_rfl) ?_
              refine vc_skip ?_
              refine vc_kp ?_
              refine vc_seq ?_
              refine vc_block ?_
              refine vc_seq ?_
              refine vc_reg (S := ⟨[(2, iv a2_), (3, iv a3_), (10, .loc 10 0), (21, .agg [s_e_api_Entry false r1.Entries, iv r1.Cycle, s_e_api_Entry false r2.Entries, iv r2.Cycle]), (22, iv 1)], [(10, (c_api_Gates r2))], []⟩) (APath.fin (by kernel_rfl)) (by kernel_rfl) ?_
              refine vc_seq ?_
              refine vc_reg (S := ⟨[(2, iv a2_), (3, iv a3_), (10, .loc 10 0), (21, .agg [s_e_api_Entry false r1.Entries, iv r1.Cycle, s_e_api_Entry false r2.Entries, iv r2.Cycle]), (22, iv 1), (40, .agg [iv a2_, iv a3_, iv (w64 (1 + (w64 ((Int.tmod (IntKind.u64.wrap (a2_)) 4))))), iv (w64 (84 + (w64 ((Int.tmod (IntKind.u64.wrap (a3_)) 100))))), iv 1, iv 84]), (41, iv 0)], [(10, (c_api_Gates r2))], []⟩) (APath.fin (by kernel_rfl)) (by kernel_rfl) ?_
              refine vc_block ?_
              refine vc_unroll 14 ?_
              refine unr_step ?_
              refine vc_seq ?_
              refine vc_reg (S := ⟨[(2, iv a2_), (3, iv a3_), (10, .loc 10 0), (21, .agg [s_e_api_Entry false r1.Entries, iv r1.Cycle, s_e_api_Entry false r2.Entries, iv r2.Cycle]), (22, iv 1), (40, .agg [iv a2_, iv a3_, iv (w64 (1 + (w64 ((Int.tmod (IntKind.u64.wrap (a2_)) 4))))), iv (w64 (84 + (w64 ((Int.tmod (IntKind.u64.wrap (a3_)) 100))))), iv 1, iv 84]), (41, iv 0), (42, bv true)], [(10, (c_api_Gates r2))], []⟩) (APath.fin (by kernel_rfl)) (by kernel_rfl) ?_
              refine vc_seq ?_
              refine vc_true (by kernel_rfl) ?_
              refine vc_skip ?_
              refine vc_kp ?_
              refine vc_seq ?_
              refine vc_block ?_
              refine vc_seq ?_
              refine vc_reg (S := ⟨[(2, iv a2_), (3, iv a3_), (10, .loc 10 0), (12, .loc 12 0), (21, .agg [s_e_api_Entry false r1.Entries, iv r1.Cycle, s_e_api_Entry false r2.Entries, iv r2.Cycle]), (22, iv 1), (40, .agg [iv a2_, iv a3_, iv (w64 (1 + (w64 ((Int.tmod (IntKind.u64.wrap (a2_)) 4))))), iv (w64 (84 + (w64 ((Int.tmod (IntKind.u64.wrap (a3_)) 100))))), iv 1, iv 84]), (41, iv 0)], [(10, (c_api_Gates r2)), (12, [iv a2_, iv a3_])], []⟩) (APath.fin (by kernel_rfl)) (by kernel_rfl) ?_
              refine vc_seq ?_
              obtain ⟨r18, hr18, h⟩ := bind_some h
              refine vc_reg (S := ⟨[(2, iv a2_), (3, iv a3_), (10, .loc 10 0), (12, .loc 12 0), (13, .loc 13 0), (14, iv r18.2), (21, .agg [s_e_api_Entry false r1.Entries, iv r1.Cycle, s_e_api_Entry false r2.Entries, iv r2.Cycle]), (22, iv 1), (40, .agg [iv a2_, iv a3_, iv (w64 (1 + (w64 ((Int.tmod (IntKind.u64.wrap (a2_)) 4))))), iv (w64 (84 + (w64 ((Int.tmod (IntKind.u64.wrap (a3_)) 100))))), iv 1, iv 84]), (41, iv 0)], [(10, (c_api_Gates r2)), (12, [iv a2_, iv a3_]), (13, (c_api_Serve r18.1))], []⟩) (APath.chunk 5 (by kernel_rfl) (APath.one (.call (some 50) 17 [.t 45, .t 47, .t 49]) (by kernel_rfl) (st_call (by kernel_rfl) (service_Of_ok N r2 a2_ a3_ r18 hr18)) (APath.fin (by kernel_rfl)))) (by kernel_rfl) ?_
              refine vc_seq ?_
              obtain ⟨r19, hr19, h⟩ := bind_some h
              refine vc_reg (S := ⟨[(2, iv a2_), (3, iv a3_), (10, .loc 10 0), (13, .loc 13 0), (14, iv r18.2), (15, .loc 15 0), (16, iv r19.2), (21, .agg [s_e_api_Entry false r1.Entries, iv r1.Cycle, s_e_api_Entry false r2.Entries, iv r2.Cycle]), (22, iv 1), (40, .agg [iv a2_, iv a3_, iv (w64 (1 + (w64 ((Int.tmod (IntKind.u64.wrap (a2_)) 4))))), iv (w64 (84 + (w64 ((Int.tmod (IntKind.u64.wrap (a3_)) 100))))), iv 1, iv 84]), (41, iv 0)], [(10, (c_api_Gates r2)), (13, (c_api_Serve r18.1)), (15, (c_api_Serve r19.1))], []⟩) (APath.chunk 5 (by kernel_rfl) (APath.one (.call (some 59) 18 [.t 54, .t 56, .t 58]) (by kernel_rfl) (st_call (by kernel_rfl) (ref30_Of_ok N r2 a2_ a3_ r19 hr19)) (APath.fin (by kernel_rfl)))) (by kernel_rfl) ?_
              refine vc_seq ?_
              refine vc_regX ⟨[(2, iv a2_), (3, iv a3_), (10, .loc 10 0), (21, .agg [s_e_api_Entry false r1.Entries, iv r1.Cycle, s_e_api_Entry false r2.Entries, iv r2.Cycle]), (22, iv 1), (40, .agg [iv a2_, iv a3_, iv (w64 (1 + (w64 ((Int.tmod (IntKind.u64.wrap (a2_)) 4))))), iv (w64 (84 + (w64 ((Int.tmod (IntKind.u64.wrap (a3_)) 100))))), iv 1, iv 84]), (41, iv 0), (69, bv ((!((r18.1.Rate == r19.1.Rate) && ((r18.1.Latency == r19.1.Latency) && true))) || (r18.2 != r19.2)))], [(10, (c_api_Gates r2))], []⟩ ?_ ?_
              · rcases Bool.eq_false_or_eq_true (!((r18.1.Rate == r19.1.Rate) && ((r18.1.Latency == r19.1.Latency) && true))) with hc20 | hc21
                · exact ⟨_, (APath.chunk 2 (by kernel_rfl) (APath.one (.val 64 (.eqS true [true, true]) [.t 62, .t 63]) (by kernel_rfl) (st_bool (c := (!((r18.1.Rate == r19.1.Rate) && ((r18.1.Latency == r19.1.Latency) && true)))) (by kernel_rfl) hc20) (APath.fin (by kernel_rfl)))), by simp only [hc20]; kernel_rfl⟩
                · exact ⟨_, (APath.chunk 2 (by kernel_rfl) (APath.one (.val 64 (.eqS true [true, true]) [.t 62, .t 63]) (by kernel_rfl) (st_bool (c := (!((r18.1.Rate == r19.1.Rate) && ((r18.1.Latency == r19.1.Latency) && true)))) (by kernel_rfl) hc21) (APath.fin (by kernel_rfl)))), by simp only [hc21]; kernel_rfl⟩
              · refine vc_ite (by kernel_rfl) h (fun hc22 h => ?_) (fun hc22 h => ?_)
                · refine vc_seq ?_
                  refine vc_reg (S := ⟨[(8, bv false)], [], []⟩) (APath.fin (by kernel_rfl)) (by kernel_rfl) ?_
                  refine vc_ret ?_
                  obtain rfl := some_inj h
                  exact ret_of (by kernel_rfl)
                · refine vc_skip ?_
                  refine vc_kp ?_
                  refine vc_reg (S := ⟨[(2, iv a2_), (3, iv a3_), (10, .loc 10 0), (21, .agg [s_e_api_Entry false r1.Entries, iv r1.Cycle, s_e_api_Entry false r2.Entries, iv r2.Cycle]), (22, iv 1), (40, .agg [iv a2_, iv a3_, iv (w64 (1 + (w64 ((Int.tmod (IntKind.u64.wrap (a2_)) 4))))), iv (w64 (84 + (w64 ((Int.tmod (IntKind.u64.wrap (a3_)) 100))))), iv 1, iv 84]), (41, iv 1)], [(10, (c_api_Gates r2))], []⟩) (APath.fin (by kernel_rfl)) (by kernel_rfl) ?_
                  refine unr_step ?_
                  refine vc_seq ?_
                  refine vc_reg (S := ⟨[(2, iv a2_), (3, iv a3_), (10, .loc 10 0), (21, .agg [s_e_api_Entry false r1.Entries, iv r1.Cycle, s_e_api_Entry false r2.Entries, iv r2.Cycle]), (22, iv 1), (40, .agg [iv a2_, iv a3_, iv (w64 (1 + (w64 ((Int.tmod (IntKind.u64.wrap (a2_)) 4))))), iv (w64 (84 + (w64 ((Int.tmod (IntKind.u64.wrap (a3_)) 100))))), iv 1, iv 84]), (41, iv 1), (42, bv true)], [(10, (c_api_Gates r2))], []⟩) (APath.fin (by kernel_rfl)) (by kernel_rfl) ?_
                  refine vc_seq ?_
                  refine vc_true (by kernel_rfl) ?_
                  refine vc_skip ?_
                  refine vc_kp ?_
                  refine vc_seq ?_
                  refine vc_block ?_
                  refine vc_seq ?_
                  refine vc_reg (S := ⟨[(2, iv a2_), (3, iv a3_), (10, .loc 10 0), (12, .loc 12 0), (21, .agg [s_e_api_Entry false r1.Entries, iv r1.Cycle, s_e_api_Entry false r2.Entries, iv r2.Cycle]), (22, iv 1), (40, .agg [iv a2_, iv a3_, iv (w64 (1 + (w64 ((Int.tmod (IntKind.u64.wrap (a2_)) 4))))), iv (w64 (84 + (w64 ((Int.tmod (IntKind.u64.wrap (a3_)) 100))))), iv 1, iv 84]), (41, iv 1)], [(10, (c_api_Gates r2)), (12, [iv (w64 (1 + (w64 ((Int.tmod (IntKind.u64.wrap (a2_)) 4))))), iv (w64 (84 + (w64 ((Int.tmod (IntKind.u64.wrap (a3_)) 100)))))])], []⟩) (APath.fin (by kernel_rfl)) (by kernel_rfl) ?_
                  refine vc_seq ?_
                  obtain ⟨r23, hr23, h⟩ := bind_some h
                  refine vc_reg (S := ⟨[(2, iv a2_), (3, iv a3_), (10, .loc 10 0), (12, .loc 12 0), (13, .loc 13 0), (14, iv r23.2), (21, .agg [s_e_api_Entry false r1.Entries, iv r1.Cycle, s_e_api_Entry false r2.Entries, iv r2.Cycle]), (22, iv 1), (40, .agg [iv a2_, iv a3_, iv (w64 (1 + (w64 ((Int.tmod (IntKind.u64.wrap (a2_)) 4))))), iv (w64 (84 + (w64 ((Int.tmod (IntKind.u64.wrap (a3_)) 100))))), iv 1, iv 84]), (41, iv 1)], [(10, (c_api_Gates r2)), (12, [iv (w64 (1 + (w64 ((Int.tmod (IntKind.u64.wrap (a2_)) 4))))), iv (w64 (84 + (w64 ((Int.tmod (IntKind.u64.wrap (a3_)) 100)))))]), (13, (c_api_Serve r23.1))], []⟩) (APath.chunk 5 (by kernel_rfl) (APath.one (.call (some 50) 17 [.t 45, .t 47, .t 49]) (by kernel_rfl) (st_call (by kernel_rfl) (service_Of_ok N r2 (w64 (1 + (w64 ((Int.tmod (IntKind.u64.wrap (a2_)) 4))))) (w64 (84 + (w64 ((Int.tmod (IntKind.u64.wrap (a3_)) 100))))) r23 hr23)) (APath.fin (by kernel_rfl)))) (by kernel_rfl) ?_
                  refine vc_seq ?_
                  obtain ⟨r24, hr24, h⟩ := bind_some h
                  refine vc_reg (S := ⟨[(2, iv a2_), (3, iv a3_), (10, .loc 10 0), (13, .loc 13 0), (14, iv r23.2), (15, .loc 15 0), (16, iv r24.2), (21, .agg [s_e_api_Entry false r1.Entries, iv r1.Cycle, s_e_api_Entry false r2.Entries, iv r2.Cycle]), (22, iv 1), (40, .agg [iv a2_, iv a3_, iv (w64 (1 + (w64 ((Int.tmod (IntKind.u64.wrap (a2_)) 4))))), iv (w64 (84 + (w64 ((Int.tmod (IntKind.u64.wrap (a3_)) 100))))), iv 1, iv 84]), (41, iv 1)], [(10, (c_api_Gates r2)), (13, (c_api_Serve r23.1)), (15, (c_api_Serve r24.1))], []⟩) (APath.chunk 5 (by kernel_rfl) (APath.one (.call (some 59) 18 [.t 54, .t 56, .t 58]) (by kernel_rfl) (st_call (by kernel_rfl) (ref30_Of_ok N r2 (w64 (1 + (w64 ((Int.tmod (IntKind.u64.wrap (a2_)) 4))))) (w64 (84 + (w64 ((Int.tmod (IntKind.u64.wrap (a3_)) 100))))) r24 hr24)) (APath.fin (by kernel_rfl)))) (by kernel_rfl) ?_
                  refine vc_seq ?_
                  refine vc_regX ⟨[(2, iv a2_), (3, iv a3_), (10, .loc 10 0), (21, .agg [s_e_api_Entry false r1.Entries, iv r1.Cycle, s_e_api_Entry false r2.Entries, iv r2.Cycle]), (22, iv 1), (40, .agg [iv a2_, iv a3_, iv (w64 (1 + (w64 ((Int.tmod (IntKind.u64.wrap (a2_)) 4))))), iv (w64 (84 + (w64 ((Int.tmod (IntKind.u64.wrap (a3_)) 100))))), iv 1, iv 84]), (41, iv 1), (69, bv ((!((r23.1.Rate == r24.1.Rate) && ((r23.1.Latency == r24.1.Latency) && true))) || (r23.2 != r24.2)))], [(10, (c_api_Gates r2))], []⟩ ?_ ?_
                  · rcases Bool.eq_false_or_eq_true (!((r23.1.Rate == r24.1.Rate) && ((r23.1.Latency == r24.1.Latency) && true))) with hc25 | hc26
                    · exact ⟨_, (APath.chunk 2 (by kernel_rfl) (APath.one (.val 64 (.eqS true [true, true]) [.t 62, .t 63]) (by kernel_rfl) (st_bool (c := (!((r23.1.Rate == r24.1.Rate) && ((r23.1.Latency == r24.1.Latency) && true)))) (by kernel_rfl) hc25) (APath.fin (by kernel_rfl)))), by simp only [hc25]; kernel_rfl⟩
                    · exact ⟨_, (APath.chunk 2 (by kernel_rfl) (APath.one (.val 64 (.eqS true [true, true]) [.t 62, .t 63]) (by kernel_rfl) (st_bool (c := (!((r23.1.Rate == r24.1.Rate) && ((r23.1.Latency == r24.1.Latency) && true)))) (by kernel_rfl) hc26) (APath.fin (by kernel_rfl)))), by simp only [hc26]; kernel_rfl⟩
                  · refine vc_ite (by kernel_rfl) h (fun hc27 h => ?_) (fun hc27 h => ?_)
                    · refine vc_seq ?_
                      refine vc_reg (S := ⟨[(8, bv false)], [], []⟩) (APath.fin (by kernel_rfl)) (by kernel_rfl) ?_
                      refine vc_ret ?_
                      obtain rfl := some_inj h
                      exact ret_of (by kernel_rfl)
                    · refine vc_skip ?_
                      refine vc_kp ?_
                      refine vc_reg (S := ⟨[(2, iv a2_), (3, iv a3_), (10, .loc 10 0), (21, .agg [s_e_api_Entry false r1.Entries, iv r1.Cycle, s_e_api_Entry false r2.Entries, iv r2.Cycle]), (22, iv 1), (40, .agg [iv a2_, iv a3_, iv (w64 (1 + (w64 ((Int.tmod (IntKind.u64.wrap (a2_)) 4))))), iv (w64 (84 + (w64 ((Int.tmod (IntKind.u64.wrap (a3_)) 100))))), iv 1, iv 84]), (41, iv 2)], [(10, (c_api_Gates r2))], []⟩) (APath.fin (by kernel_rfl)) (by kernel_rfl) ?_
                      refine unr_step ?_
                      refine vc_seq ?_
                      refine vc_reg (S := ⟨[(2, iv a2_), (3, iv a3_), (10, .loc 10 0), (21, .agg [s_e_api_Entry false r1.Entries, iv r1.Cycle, s_e_api_Entry false r2.Entries, iv r2.Cycle]), (22, iv 1), (40, .agg [iv a2_, iv a3_, iv (w64 (1 + (w64 ((Int.tmod (IntKind.u64.wrap (a2_)) 4))))), iv (w64 (84 + (w64 ((Int.tmod (IntKind.u64.wrap (a3_)) 100))))), iv 1, iv 84]), (41, iv 2), (42, bv true)], [(10, (c_api_Gates r2))], []⟩) (APath.fin (by kernel_rfl)) (by kernel_rfl) ?_
                      refine vc_seq ?_
                      refine vc_true (by kernel_rfl) ?_
                      refine vc_skip ?_
                      refine vc_kp ?_
                      refine vc_seq ?_
                      refine vc_block ?_
                      refine vc_seq ?_
                      refine vc_reg (S := ⟨[(2, iv a2_), (3, iv a3_), (10, .loc 10 0), (12, .loc 12 0), (21, .agg [s_e_api_Entry false r1.Entries, iv r1.Cycle, s_e_api_Entry false r2.Entries, iv r2.Cycle]), (22, iv 1), (40, .agg [iv a2_, iv a3_, iv (w64 (1 + (w64 ((Int.tmod (IntKind.u64.wrap (a2_)) 4))))), iv (w64 (84 + (w64 ((Int.tmod (IntKind.u64.wrap (a3_)) 100))))), iv 1, iv 84]), (41, iv 2)], [(10, (c_api_Gates r2)), (12, [iv 1, iv 84])], []⟩) (APath.fin (by kernel_rfl)) (by kernel_rfl) ?_
                      refine vc_seq ?_
                      obtain ⟨r28, hr28, h⟩ := bind_some h
                      refine vc_reg (S := ⟨[(2, iv a2_), (3, iv a3_), (10, .loc 10 0), (12, .loc 12 0), (13, .loc 13 0), (14, iv r28.2), (21, .agg [s_e_api_Entry false r1.Entries, iv r1.Cycle, s_e_api_Entry false r2.Entries, iv r2.Cycle]), (22, iv 1), (40, .agg [iv a2_, iv a3_, iv (w64 (1 + (w64 ((Int.tmod (IntKind.u64.wrap (a2_)) 4))))), iv (w64 (84 + (w64 ((Int.tmod (IntKind.u64.wrap (a3_)) 100))))), iv 1, iv 84]), (41, iv 2)], [(10, (c_api_Gates r2)), (12, [iv 1, iv 84]), (13, (c_api_Serve r28.1))], []⟩) (APath.chunk 5 (by kernel_rfl) (APath.one (.call (some 50) 17 [.t 45, .t 47, .t 49]) (by kernel_rfl) (st_call (by kernel_rfl) (service_Of_ok N r2 1 84 r28 hr28)) (APath.fin (by kernel_rfl)))) (by kernel_rfl) ?_
                      refine vc_seq ?_
                      obtain ⟨r29, hr29, h⟩ := bind_some h
                      refine vc_reg (S := ⟨[(2, iv a2_), (3, iv a3_), (10, .loc 10 0), (13, .loc 13 0), (14, iv r28.2), (15, .loc 15 0), (16, iv r29.2), (21, .agg [s_e_api_Entry false r1.Entries, iv r1.Cycle, s_e_api_Entry false r2.Entries, iv r2.Cycle]), (22, iv 1), (40, .agg [iv a2_, iv a3_, iv (w64 (1 + (w64 ((Int.tmod (IntKind.u64.wrap (a2_)) 4))))), iv (w64 (84 + (w64 ((Int.tmod (IntKind.u64.wrap (a3_)) 100))))), iv 1, iv 84]), (41, iv 2)], [(10, (c_api_Gates r2)), (13, (c_api_Serve r28.1)), (15, (c_api_Serve r29.1))], []⟩) (APath.chunk 5 (by kernel_rfl) (APath.one (.call (some 59) 18 [.t 54, .t 56, .t 58]) (by kernel_rfl) (st_call (by kernel_rfl) (ref30_Of_ok N r2 1 84 r29 hr29)) (APath.fin (by kernel_rfl)))) (by kernel_rfl) ?_
                      refine vc_seq ?_
                      refine vc_regX ⟨[(2, iv a2_), (3, iv a3_), (10, .loc 10 0), (21, .agg [s_e_api_Entry false r1.Entries, iv r1.Cycle, s_e_api_Entry false r2.Entries, iv r2.Cycle]), (22, iv 1), (40, .agg [iv a2_, iv a3_, iv (w64 (1 + (w64 ((Int.tmod (IntKind.u64.wrap (a2_)) 4))))), iv (w64 (84 + (w64 ((Int.tmod (IntKind.u64.wrap (a3_)) 100))))), iv 1, iv 84]), (41, iv 2), (69, bv ((!((r28.1.Rate == r29.1.Rate) && ((r28.1.Latency == r29.1.Latency) && true))) || (r28.2 != r29.2)))], [(10, (c_api_Gates r2))], []⟩ ?_ ?_
                      · rcases Bool.eq_false_or_eq_true (!((r28.1.Rate == r29.1.Rate) && ((r28.1.Latency == r29.1.Latency) && true))) with hc30 | hc31
                        · exact ⟨_, (APath.chunk 2 (by kernel_rfl) (APath.one (.val 64 (.eqS true [true, true]) [.t 62, .t 63]) (by kernel_rfl) (st_bool (c := (!((r28.1.Rate == r29.1.Rate) && ((r28.1.Latency == r29.1.Latency) && true)))) (by kernel_rfl) hc30) (APath.fin (by kernel_rfl)))), by simp only [hc30]; kernel_rfl⟩
                        · exact ⟨_, (APath.chunk 2 (by kernel_rfl) (APath.one (.val 64 (.eqS true [true, true]) [.t 62, .t 63]) (by kernel_rfl) (st_bool (c := (!((r28.1.Rate == r29.1.Rate) && ((r28.1.Latency == r29.1.Latency) && true)))) (by kernel_rfl) hc31) (APath.fin (by kernel_rfl)))), by simp only [hc31]; kernel_rfl⟩
                      · refine vc_ite (by kernel_rfl) h (fun hc32 h => ?_) (fun hc32 h => ?_)
                        · refine vc_seq ?_
                          refine vc_reg (S := ⟨[(8, bv false)], [], []⟩) (APath.fin (by kernel_rfl)) (by kernel_rfl) ?_
                          refine vc_ret ?_
                          obtain rfl := some_inj h
                          exact ret_of (by kernel_rfl)
                        · refine vc_skip ?_
                          refine vc_kp ?_
                          refine vc_reg (S := ⟨[(2, iv a2_), (3, iv a3_), (10, .loc 10 0), (21, .agg [s_e_api_Entry false r1.Entries, iv r1.Cycle, s_e_api_Entry false r2.Entries, iv r2.Cycle]), (22, iv 1), (40, .agg [iv a2_, iv a3_, iv (w64 (1 + (w64 ((Int.tmod (IntKind.u64.wrap (a2_)) 4))))), iv (w64 (84 + (w64 ((Int.tmod (IntKind.u64.wrap (a3_)) 100))))), iv 1, iv 84]), (41, iv 3)], [(10, (c_api_Gates r2))], []⟩) (APath.fin (by kernel_rfl)) (by kernel_rfl) ?_
                          refine unr_step ?_
                          refine vc_seq ?_
                          refine vc_reg (S := ⟨[(2, iv a2_), (3, iv a3_), (10, .loc 10 0), (21, .agg [s_e_api_Entry false r1.Entries, iv r1.Cycle, s_e_api_Entry false r2.Entries, iv r2.Cycle]), (22, iv 1), (40, .agg [iv a2_, iv a3_, iv (w64 (1 + (w64 ((Int.tmod (IntKind.u64.wrap (a2_)) 4))))), iv (w64 (84 + (w64 ((Int.tmod (IntKind.u64.wrap (a3_)) 100))))), iv 1, iv 84]), (41, iv 3), (42, bv false)], [(10, (c_api_Gates r2))], []⟩) (APath.fin (by kernel_rfl)) (by kernel_rfl) ?_
                          refine vc_seq ?_
                          refine vc_false (by kernel_rfl) ?_
                          refine vc_exit ?_
                          try show vc _ _ _ _ _
                          refine vc_reg (S := ⟨[(2, iv a2_), (3, iv a3_), (21, .agg [s_e_api_Entry false r1.Entries, iv r1.Cycle, s_e_api_Entry false r2.Entries, iv r2.Cycle]), (22, iv 2)], [], []⟩) (APath.fin (by kernel_rfl)) (by kernel_rfl) ?_
                          refine unr_step ?_
                          refine vc_seq ?_
                          refine vc_reg (S := ⟨[(2, iv a2_), (3, iv a3_), (21, .agg [s_e_api_Entry false r1.Entries, iv r1.Cycle, s_e_api_Entry false r2.Entries, iv r2.Cycle]), (22, iv 2), (23, bv false)], [], []⟩) (APath.fin (by kernel_rfl)) (by kernel_rfl) ?_
                          refine vc_seq ?_
                          refine vc_false (by kernel_rfl) ?_
                          refine vc_exit ?_
                          try show vc _ _ _ _ _
                          refine vc_seq ?_
                          obtain ⟨r33, hr33, h⟩ := bind_some h
                          refine vc_reg (S := ⟨[(8, bv r33)], [], []⟩) (APath.one (.call (some 72) 14 []) (by kernel_rfl) (st_call (by kernel_rfl) (law30_works_ok N  r33 hr33)) (APath.fin (by kernel_rfl))) (by kernel_rfl) ?_
                          refine vc_ret ?_
                          obtain rfl := some_inj h
                          exact ret_of (by kernel_rfl)
end Go.Sh

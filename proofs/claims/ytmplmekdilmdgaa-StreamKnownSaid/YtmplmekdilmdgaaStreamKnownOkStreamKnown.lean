/- Part of the proof; written by a program out of the texts in wip/. -/
import Derived.Test.YtmplmekdilmdgaaStreamKnownOk3
namespace Go.Sh
open Go Go.Eng Go.Proofs
set_option linter.unusedVariables false
set_option linter.unusedSimpArgs false
set_option maxRecDepth 100000
set_option maxHeartbeats 4000000
attribute [local irreducible] vc ev keepS opsD opsF dropX upd updH updO
theorem law22_StreamKnown_ok (N : Nat) (r : Bool) (h : law22_StreamKnown N = some r) : PCall Try.prog 7 [] (bv r) := by
  unfold law22_StreamKnown at h
  have hH : HP ([] : List HO) [] := trivial
  refine pcall_of chk7 rfl rfl (vc_sound _ _ _ ?_) rfl
  refine sq (rg APath.f ?_)
  refine tq (sq ?_)
  obtain ⟨r1, hr1, h⟩ := bs h
  obtain ⟨r2, hr2, h⟩ := bs h
  obtain ⟨r3, hr3, h⟩ := bs h
  refine rg (APath.v 0 (st_call (by kernel_rfl) (law22_line_ok N  r1 hr1)) (APath.v 0 (st_call (by kernel_rfl) (law22_setup_ok N  r2 hr2)) (APath.v 0 (st_call (by kernel_rfl) (law22_scheduled_ok N  r3 hr3)) APath.f))) (tq ?_)
  refine sq (rg APath.f ?_)
  refine tq (sq ?_)
  refine sq (rg APath.f ?_)
  refine tq (bk ?_)
  obtain ⟨o514, ho514, h⟩ := bs h
  refine vc_loop ((loop_sim (fun (x : Int) s => s = ⟨[(1, .loc 1 0), (2, .loc 2 0), (3, .loc 3 0), (4, s_e_api_Setup true [(api_Setup.mk 0 0 0 0), (api_Setup.mk 10001 0 0 8000), (api_Setup.mk 1 1001 0 8000), (api_Setup.mk 1 (-1) 0 8000), (api_Setup.mk 1 0 10001 8000), (api_Setup.mk 1 0 0 1541), (api_Setup.mk 1 0 0 65537)]), (5, iv x)], [(1, (c_api_Topo r1)), (2, (c_api_Setup r2)), (3, (c_api_Stream r3))], []⟩) (fun x : Int => law22_StreamKnown_L1 N r1 x) (fun (p : (Unit) ⊕ (Bool)) e s => match p with | (.inl p) => e = .exit 0 ∧ (s = ⟨[(1, .loc 1 0), (2, .loc 2 0), (3, .loc 3 0)], [(1, (c_api_Topo r1)), (2, (c_api_Setup r2)), (3, (c_api_Stream r3))], []⟩) | (.inr p) => e = .ret ∧ ∃ xs, resL s i7.res = some xs ∧ tupOf xs = bv p) ?_ N _ o514 _ ho514 (by show _ = _; kernel_rfl)).mono ?_)
  · clear h ho514
    rintro i4 o s h hR
    obtain rfl := hR
    replace h : law22_StreamKnown_L1 N r1 i4 = some o := h
    unfold law22_StreamKnown_L1 at h
    refine sq (sq ?_)
    refine rg (APath.u 2 (st_val (ys := [s_e_api_Setup true [(api_Setup.mk 0 0 0 0), (api_Setup.mk 10001 0 0 8000), (api_Setup.mk 1 1001 0 8000), (api_Setup.mk 1 (-1) 0 8000), (api_Setup.mk 1 0 10001 8000), (api_Setup.mk 1 0 0 1541), (api_Setup.mk 1 0 0 65537)]]) (by kernel_rfl) (vexec_len e_api_Setup)) APath.f) (tq ?_)
    refine it h (fun hc505 h => ?_) (fun hc505 h => ?_)
    · refine sk (tq ?_)
      refine kq (sq ?_)
      refine bk (sq ?_)
      obtain ⟨e506, he506, h⟩ := bs h
      obtain ⟨r507, hr507, h⟩ := bs h
      refine rq (APath.u 3 (st_val (ys := [s_e_api_Setup true [(api_Setup.mk 0 0 0 0), (api_Setup.mk 10001 0 0 8000), (api_Setup.mk 1 1001 0 8000), (api_Setup.mk 1 (-1) 0 8000), (api_Setup.mk 1 0 10001 8000), (api_Setup.mk 1 0 0 1541), (api_Setup.mk 1 0 0 65537)], iv i4]) (by kernel_rfl) (vexec_iaddrS e_api_Setup he506)) (APath.u 0 (st_toLH (st_loadP (sz := 4) (off := 0) (cs := [.int .i64 e506.Grid, .int .i64 e506.Slack, .int .i64 e506.Proc, .int .i64 e506.Cap]) (r := .agg (c_api_Setup e506)) e_api_Setup he506 (by kernel_rfl) (by kernel_rfl) (by kernel_rfl)) (by kernel_rfl)) (APath.v 1 (st_call (by kernel_rfl) (stream_Hops_ok N r1 e506 (api_Stream.mk 0 0 0 0 0 0 (api_Bucket.mk 0 0) 0 ([])) 0 r507 hr507)) APath.f))) (tq ?_)
      refine sq ?_
      obtain ⟨j512, hj, h⟩ := bs h
      refine rgR (fun s => s = ⟨[(1, .loc 1 0), (2, .loc 2 0), (3, .loc 3 0), (4, s_e_api_Setup true [(api_Setup.mk 0 0 0 0), (api_Setup.mk 10001 0 0 8000), (api_Setup.mk 1 1001 0 8000), (api_Setup.mk 1 (-1) 0 8000), (api_Setup.mk 1 0 10001 8000), (api_Setup.mk 1 0 0 1541), (api_Setup.mk 1 0 0 65537)]), (5, iv i4), (65, bv j512)], [(1, (c_api_Topo r1)), (2, (c_api_Setup r2)), (3, (c_api_Stream r3))], []⟩) ?_ ?_
      · clear h
        obtain ⟨e508, he508, hj⟩ := bs hj
        refine (EP.u 2 (st_val (ys := [s_e_api_Setup true [(api_Setup.mk 0 0 0 0), (api_Setup.mk 10001 0 0 8000), (api_Setup.mk 1 1001 0 8000), (api_Setup.mk 1 (-1) 0 8000), (api_Setup.mk 1 0 10001 8000), (api_Setup.mk 1 0 0 1541), (api_Setup.mk 1 0 0 65537)], iv i4]) (by kernel_rfl) (vexec_iaddrS e_api_Setup he508)) (EP.u 0 (st_loadP (sz := 4) (off := 0) (cs := [.int .i64 e508.Grid, .int .i64 e508.Slack, .int .i64 e508.Proc, .int .i64 e508.Cap]) (r := .agg (c_api_Setup e508)) e_api_Setup he508 (by kernel_rfl) (by kernel_rfl) (by kernel_rfl)) ?_))
        obtain ⟨r509, hr509, hj⟩ := bs hj
        refine (EP.v 0 (st_call (by kernel_rfl) (stream_CheckSetup_ok N e508 r509 hr509)) ?_)
        rcases ite_some hj with ⟨hc510, hj⟩ | ⟨hc511, hj⟩
        · obtain rfl := some_inj hj
          exact (EP.u 0 (st_bool (c := (r509 != 320)) (by kernel_rfl) hc510) (EP.f (by show _ = _; kernel_rfl)))
        obtain rfl := some_inj hj
        exact (EP.u 0 (st_bool (c := (r509 != 320)) (by kernel_rfl) hc511) (EP.f (by show _ = _; kernel_rfl)))
      clear hj
      rintro s hR
      obtain rfl := hR
      refine tq (it h (fun hc513 h => ?_) (fun hc513 h => ?_))
      · refine sq (rg APath.f ?_)
        refine tq (rt ?_)
        refine br (tr ?_)
        obtain rfl := some_inj h
        exact ⟨_, rfl, rfl, ret_of (by kernel_rfl)⟩
      refine sk (bn ?_)
      refine tq (kq ?_)
      refine rg APath.f ?_
      obtain rfl := some_inj h
      exact ⟨_, rfl, (by show _ = _; kernel_rfl)⟩
    refine kq (xq ?_)
    refine tx ?_
    obtain rfl := some_inj h
    exact ⟨_, rfl, rfl, (by show _ = _; kernel_rfl)⟩
  rintro e s hq
  rcases o514 with p515 | p652
  · dsimp only at h hq
    obtain ⟨rfl, hR⟩ := hq
    obtain rfl := hR
    refine bx (tq ?_)
    refine sq (rg APath.f ?_)
    refine tq (sq ?_)
    refine rg APath.f (tq ?_)
    refine sq (rg APath.f ?_)
    refine tq (sq ?_)
    refine rg APath.f (tq ?_)
    refine sq (rg APath.f ?_)
    refine tq (sq ?_)
    refine sq (rg APath.f ?_)
    refine tq (bk ?_)
    refine vc_unroll 18 ?_
    refine unr_step ?_
    refine sq (sq ?_)
    refine rg APath.f (tq ?_)
    refine vc_true (by kernel_rfl) ?_
    refine sk (tq ?_)
    refine kq (sq ?_)
    refine bk (sq ?_)
    obtain ⟨j520, hj, h⟩ := bs h
    refine rqR (fun s => s = ⟨[(1, .loc 1 0), (2, .loc 2 0), (3, .loc 3 0), (8, .loc 8 0), (9, .loc 9 0), (10, iv 0), (136, bv j520)], [(1, (c_api_Topo r1)), (2, (c_api_Setup r2)), (3, (c_api_Stream r3)), (8, [iv r3.Id, iv r3.Talker, iv r3.Listener, iv 6, iv r3.Size, iv 0, iv 100, iv 1, iv r3.Deadline, s_eSl_1_eI64 false r3.Routes]), (9, [iv 0, iv r3.Talker, iv r3.Listener, iv r3.Class, iv r3.Size, iv r3.Period, iv r3.Bucket.Burst, iv r3.Bucket.Rate, iv r3.Deadline, s_eSl_1_eI64 false r3.Routes, iv 4096, iv r3.Talker, iv r3.Listener, iv r3.Class, iv r3.Size, iv r3.Period, iv r3.Bucket.Burst, iv r3.Bucket.Rate, iv r3.Deadline, s_eSl_1_eI64 false r3.Routes, iv r3.Id, iv 1, iv r3.Listener, iv r3.Class, iv r3.Size, iv r3.Period, iv r3.Bucket.Burst, iv r3.Bucket.Rate, iv r3.Deadline, s_eSl_1_eI64 false r3.Routes, iv r3.Id, iv r3.Talker, iv r3.Listener, iv r3.Class, iv 1543, iv r3.Period, iv r3.Bucket.Burst, iv r3.Bucket.Rate, iv r3.Deadline, s_eSl_1_eI64 false r3.Routes, iv r3.Id, iv r3.Talker, iv r3.Listener, iv r3.Class, iv r3.Size, iv r3.Period, iv r3.Bucket.Burst, iv r3.Bucket.Rate, iv 0, s_eSl_1_eI64 false r3.Routes, iv r3.Id, iv r3.Talker, iv r3.Listener, iv r3.Class, iv r3.Size, iv 241, iv r3.Bucket.Burst, iv r3.Bucket.Rate, iv r3.Deadline, s_eSl_1_eI64 false r3.Routes, iv r3.Id, iv r3.Talker, iv r3.Listener, iv r3.Class, iv r3.Size, iv r3.Period, iv r3.Bucket.Burst, iv 1, iv r3.Deadline, s_eSl_1_eI64 false r3.Routes, iv r3.Id, iv r3.Talker, iv r3.Listener, iv 6, iv r3.Size, iv 1, iv 100, iv 1, iv r3.Deadline, s_eSl_1_eI64 false r3.Routes, iv r3.Id, iv r3.Talker, iv r3.Listener, iv 6, iv r3.Size, iv 0, iv 99, iv 1, iv r3.Deadline, s_eSl_1_eI64 false r3.Routes, iv r3.Id, iv r3.Talker, iv r3.Listener, iv 6, iv r3.Size, iv 0, iv 100, iv 0, iv r3.Deadline, s_eSl_1_eI64 false r3.Routes, iv r3.Id, iv r3.Talker, iv r3.Listener, iv 5, iv r3.Size, iv 0, iv 100, iv 1, iv r3.Deadline, s_eSl_1_eI64 false r3.Routes, iv r3.Id, iv r3.Talker, iv r3.Listener, iv r3.Class, iv r3.Size, iv r3.Period, iv r3.Bucket.Burst, iv r3.Bucket.Rate, iv r3.Deadline, s_eSl_1_eI64 true [], iv r3.Id, iv r3.Talker, iv r3.Listener, iv r3.Class, iv r3.Size, iv r3.Period, iv r3.Bucket.Burst, iv r3.Bucket.Rate, iv r3.Deadline, s_eSl_1_eI64 true [[0, 2], [0, 2]]])], []⟩) ?_ ?_
    · clear h
      obtain ⟨r516, hr516, hj⟩ := bs hj
      refine (EP.v 4 (st_call (by kernel_rfl) (stream_Check_ok N r1 (api_Stream.mk 0 r3.Talker r3.Listener r3.Class r3.Size r3.Period r3.Bucket r3.Deadline r3.Routes) r516 hr516)) ?_)
      rcases ite_some hj with ⟨hc517, hj⟩ | ⟨hc518, hj⟩
      · obtain rfl := some_inj hj
        exact (EP.u 0 (st_bool (c := (r516 != 321)) (by kernel_rfl) hc517) (EP.f (by show _ = _; kernel_rfl)))
      refine (EP.u 0 (st_bool (c := (r516 != 321)) (by kernel_rfl) hc518) ?_)
      obtain ⟨r519, hr519, hj⟩ := bs hj
      obtain rfl := some_inj hj
      exact (EP.u 7 (st_callP (by kernel_rfl) (stream_CheckAll_ok N r1 ([r3, (api_Stream.mk 0 r3.Talker r3.Listener r3.Class r3.Size r3.Period r3.Bucket r3.Deadline r3.Routes)]) r519 hr519)) (EP.f (by show _ = _; kernel_rfl)))
    clear hj
    rintro s hR
    obtain rfl := hR
    refine tq (it h (fun hc521 h => ?_) (fun hc521 h => ?_))
    · refine sq (rg APath.f ?_)
      refine tq (rt ?_)
      refine br (tr ?_)
      refine tr (br ?_)
      refine tr ?_
      obtain rfl := some_inj h
      exact ret_of (by kernel_rfl)
    refine sk (bn ?_)
    refine tq (kq ?_)
    refine rg APath.f (tq ?_)
    refine unr_step ?_
    refine sq (sq ?_)
    refine rg APath.f (tq ?_)
    refine vc_true (by kernel_rfl) ?_
    refine sk (tq ?_)
    refine kq (sq ?_)
    refine bk (sq ?_)
    obtain ⟨j526, hj, h⟩ := bs h
    refine rqR (fun s => s = ⟨[(1, .loc 1 0), (2, .loc 2 0), (3, .loc 3 0), (8, .loc 8 0), (9, .loc 9 0), (10, iv 1), (136, bv j526)], [(1, (c_api_Topo r1)), (2, (c_api_Setup r2)), (3, (c_api_Stream r3)), (8, [iv r3.Id, iv r3.Talker, iv r3.Listener, iv 6, iv r3.Size, iv 0, iv 100, iv 1, iv r3.Deadline, s_eSl_1_eI64 false r3.Routes]), (9, [iv 0, iv r3.Talker, iv r3.Listener, iv r3.Class, iv r3.Size, iv r3.Period, iv r3.Bucket.Burst, iv r3.Bucket.Rate, iv r3.Deadline, s_eSl_1_eI64 false r3.Routes, iv 4096, iv r3.Talker, iv r3.Listener, iv r3.Class, iv r3.Size, iv r3.Period, iv r3.Bucket.Burst, iv r3.Bucket.Rate, iv r3.Deadline, s_eSl_1_eI64 false r3.Routes, iv r3.Id, iv 1, iv r3.Listener, iv r3.Class, iv r3.Size, iv r3.Period, iv r3.Bucket.Burst, iv r3.Bucket.Rate, iv r3.Deadline, s_eSl_1_eI64 false r3.Routes, iv r3.Id, iv r3.Talker, iv r3.Listener, iv r3.Class, iv 1543, iv r3.Period, iv r3.Bucket.Burst, iv r3.Bucket.Rate, iv r3.Deadline, s_eSl_1_eI64 false r3.Routes, iv r3.Id, iv r3.Talker, iv r3.Listener, iv r3.Class, iv r3.Size, iv r3.Period, iv r3.Bucket.Burst, iv r3.Bucket.Rate, iv 0, s_eSl_1_eI64 false r3.Routes, iv r3.Id, iv r3.Talker, iv r3.Listener, iv r3.Class, iv r3.Size, iv 241, iv r3.Bucket.Burst, iv r3.Bucket.Rate, iv r3.Deadline, s_eSl_1_eI64 false r3.Routes, iv r3.Id, iv r3.Talker, iv r3.Listener, iv r3.Class, iv r3.Size, iv r3.Period, iv r3.Bucket.Burst, iv 1, iv r3.Deadline, s_eSl_1_eI64 false r3.Routes, iv r3.Id, iv r3.Talker, iv r3.Listener, iv 6, iv r3.Size, iv 1, iv 100, iv 1, iv r3.Deadline, s_eSl_1_eI64 false r3.Routes, iv r3.Id, iv r3.Talker, iv r3.Listener, iv 6, iv r3.Size, iv 0, iv 99, iv 1, iv r3.Deadline, s_eSl_1_eI64 false r3.Routes, iv r3.Id, iv r3.Talker, iv r3.Listener, iv 6, iv r3.Size, iv 0, iv 100, iv 0, iv r3.Deadline, s_eSl_1_eI64 false r3.Routes, iv r3.Id, iv r3.Talker, iv r3.Listener, iv 5, iv r3.Size, iv 0, iv 100, iv 1, iv r3.Deadline, s_eSl_1_eI64 false r3.Routes, iv r3.Id, iv r3.Talker, iv r3.Listener, iv r3.Class, iv r3.Size, iv r3.Period, iv r3.Bucket.Burst, iv r3.Bucket.Rate, iv r3.Deadline, s_eSl_1_eI64 true [], iv r3.Id, iv r3.Talker, iv r3.Listener, iv r3.Class, iv r3.Size, iv r3.Period, iv r3.Bucket.Burst, iv r3.Bucket.Rate, iv r3.Deadline, s_eSl_1_eI64 true [[0, 2], [0, 2]]])], []⟩) ?_ ?_
    · clear h
      obtain ⟨r522, hr522, hj⟩ := bs hj
      refine (EP.v 4 (st_call (by kernel_rfl) (stream_Check_ok N r1 (api_Stream.mk 4096 r3.Talker r3.Listener r3.Class r3.Size r3.Period r3.Bucket r3.Deadline r3.Routes) r522 hr522)) ?_)
      rcases ite_some hj with ⟨hc523, hj⟩ | ⟨hc524, hj⟩
      · obtain rfl := some_inj hj
        exact (EP.u 0 (st_bool (c := (r522 != 321)) (by kernel_rfl) hc523) (EP.f (by show _ = _; kernel_rfl)))
      refine (EP.u 0 (st_bool (c := (r522 != 321)) (by kernel_rfl) hc524) ?_)
      obtain ⟨r525, hr525, hj⟩ := bs hj
      obtain rfl := some_inj hj
      exact (EP.u 7 (st_callP (by kernel_rfl) (stream_CheckAll_ok N r1 ([r3, (api_Stream.mk 4096 r3.Talker r3.Listener r3.Class r3.Size r3.Period r3.Bucket r3.Deadline r3.Routes)]) r525 hr525)) (EP.f (by show _ = _; kernel_rfl)))
    clear hj
    rintro s hR
    obtain rfl := hR
    refine tq (it h (fun hc527 h => ?_) (fun hc527 h => ?_))
    · refine sq (rg APath.f ?_)
      refine tq (rt ?_)
      refine br (tr ?_)
      refine tr (br ?_)
      refine tr ?_
      obtain rfl := some_inj h
      exact ret_of (by kernel_rfl)
    refine sk (bn ?_)
    refine tq (kq ?_)
    refine rg APath.f (tq ?_)
    refine unr_step ?_
    refine sq (sq ?_)
    refine rg APath.f (tq ?_)
    refine vc_true (by kernel_rfl) ?_
    refine sk (tq ?_)
    refine kq (sq ?_)
    refine bk (sq ?_)
    obtain ⟨j532, hj, h⟩ := bs h
    refine rqR (fun s => s = ⟨[(1, .loc 1 0), (2, .loc 2 0), (3, .loc 3 0), (8, .loc 8 0), (9, .loc 9 0), (10, iv 2), (136, bv j532)], [(1, (c_api_Topo r1)), (2, (c_api_Setup r2)), (3, (c_api_Stream r3)), (8, [iv r3.Id, iv r3.Talker, iv r3.Listener, iv 6, iv r3.Size, iv 0, iv 100, iv 1, iv r3.Deadline, s_eSl_1_eI64 false r3.Routes]), (9, [iv 0, iv r3.Talker, iv r3.Listener, iv r3.Class, iv r3.Size, iv r3.Period, iv r3.Bucket.Burst, iv r3.Bucket.Rate, iv r3.Deadline, s_eSl_1_eI64 false r3.Routes, iv 4096, iv r3.Talker, iv r3.Listener, iv r3.Class, iv r3.Size, iv r3.Period, iv r3.Bucket.Burst, iv r3.Bucket.Rate, iv r3.Deadline, s_eSl_1_eI64 false r3.Routes, iv r3.Id, iv 1, iv r3.Listener, iv r3.Class, iv r3.Size, iv r3.Period, iv r3.Bucket.Burst, iv r3.Bucket.Rate, iv r3.Deadline, s_eSl_1_eI64 false r3.Routes, iv r3.Id, iv r3.Talker, iv r3.Listener, iv r3.Class, iv 1543, iv r3.Period, iv r3.Bucket.Burst, iv r3.Bucket.Rate, iv r3.Deadline, s_eSl_1_eI64 false r3.Routes, iv r3.Id, iv r3.Talker, iv r3.Listener, iv r3.Class, iv r3.Size, iv r3.Period, iv r3.Bucket.Burst, iv r3.Bucket.Rate, iv 0, s_eSl_1_eI64 false r3.Routes, iv r3.Id, iv r3.Talker, iv r3.Listener, iv r3.Class, iv r3.Size, iv 241, iv r3.Bucket.Burst, iv r3.Bucket.Rate, iv r3.Deadline, s_eSl_1_eI64 false r3.Routes, iv r3.Id, iv r3.Talker, iv r3.Listener, iv r3.Class, iv r3.Size, iv r3.Period, iv r3.Bucket.Burst, iv 1, iv r3.Deadline, s_eSl_1_eI64 false r3.Routes, iv r3.Id, iv r3.Talker, iv r3.Listener, iv 6, iv r3.Size, iv 1, iv 100, iv 1, iv r3.Deadline, s_eSl_1_eI64 false r3.Routes, iv r3.Id, iv r3.Talker, iv r3.Listener, iv 6, iv r3.Size, iv 0, iv 99, iv 1, iv r3.Deadline, s_eSl_1_eI64 false r3.Routes, iv r3.Id, iv r3.Talker, iv r3.Listener, iv 6, iv r3.Size, iv 0, iv 100, iv 0, iv r3.Deadline, s_eSl_1_eI64 false r3.Routes, iv r3.Id, iv r3.Talker, iv r3.Listener, iv 5, iv r3.Size, iv 0, iv 100, iv 1, iv r3.Deadline, s_eSl_1_eI64 false r3.Routes, iv r3.Id, iv r3.Talker, iv r3.Listener, iv r3.Class, iv r3.Size, iv r3.Period, iv r3.Bucket.Burst, iv r3.Bucket.Rate, iv r3.Deadline, s_eSl_1_eI64 true [], iv r3.Id, iv r3.Talker, iv r3.Listener, iv r3.Class, iv r3.Size, iv r3.Period, iv r3.Bucket.Burst, iv r3.Bucket.Rate, iv r3.Deadline, s_eSl_1_eI64 true [[0, 2], [0, 2]]])], []⟩) ?_ ?_
    · clear h
      obtain ⟨r528, hr528, hj⟩ := bs hj
      refine (EP.v 4 (st_call (by kernel_rfl) (stream_Check_ok N r1 (api_Stream.mk r3.Id 1 r3.Listener r3.Class r3.Size r3.Period r3.Bucket r3.Deadline r3.Routes) r528 hr528)) ?_)
      rcases ite_some hj with ⟨hc529, hj⟩ | ⟨hc530, hj⟩
      · obtain rfl := some_inj hj
        exact (EP.u 0 (st_bool (c := (r528 != 321)) (by kernel_rfl) hc529) (EP.f (by show _ = _; kernel_rfl)))
      refine (EP.u 0 (st_bool (c := (r528 != 321)) (by kernel_rfl) hc530) ?_)
      obtain ⟨r531, hr531, hj⟩ := bs hj
      obtain rfl := some_inj hj
      exact (EP.u 7 (st_callP (by kernel_rfl) (stream_CheckAll_ok N r1 ([r3, (api_Stream.mk r3.Id 1 r3.Listener r3.Class r3.Size r3.Period r3.Bucket r3.Deadline r3.Routes)]) r531 hr531)) (EP.f (by show _ = _; kernel_rfl)))
    clear hj
    rintro s hR
    obtain rfl := hR
    refine tq (it h (fun hc533 h => ?_) (fun hc533 h => ?_))
    · refine sq (rg APath.f ?_)
      refine tq (rt ?_)
      refine br (tr ?_)
      refine tr (br ?_)
      refine tr ?_
      obtain rfl := some_inj h
      exact ret_of (by kernel_rfl)
    refine sk (bn ?_)
    refine tq (kq ?_)
    refine rg APath.f (tq ?_)
    refine unr_step ?_
    refine sq (sq ?_)
    refine rg APath.f (tq ?_)
    refine vc_true (by kernel_rfl) ?_
    refine sk (tq ?_)
    refine kq (sq ?_)
    refine bk (sq ?_)
    obtain ⟨j538, hj, h⟩ := bs h
    refine rqR (fun s => s = ⟨[(1, .loc 1 0), (2, .loc 2 0), (3, .loc 3 0), (8, .loc 8 0), (9, .loc 9 0), (10, iv 3), (136, bv j538)], [(1, (c_api_Topo r1)), (2, (c_api_Setup r2)), (3, (c_api_Stream r3)), (8, [iv r3.Id, iv r3.Talker, iv r3.Listener, iv 6, iv r3.Size, iv 0, iv 100, iv 1, iv r3.Deadline, s_eSl_1_eI64 false r3.Routes]), (9, [iv 0, iv r3.Talker, iv r3.Listener, iv r3.Class, iv r3.Size, iv r3.Period, iv r3.Bucket.Burst, iv r3.Bucket.Rate, iv r3.Deadline, s_eSl_1_eI64 false r3.Routes, iv 4096, iv r3.Talker, iv r3.Listener, iv r3.Class, iv r3.Size, iv r3.Period, iv r3.Bucket.Burst, iv r3.Bucket.Rate, iv r3.Deadline, s_eSl_1_eI64 false r3.Routes, iv r3.Id, iv 1, iv r3.Listener, iv r3.Class, iv r3.Size, iv r3.Period, iv r3.Bucket.Burst, iv r3.Bucket.Rate, iv r3.Deadline, s_eSl_1_eI64 false r3.Routes, iv r3.Id, iv r3.Talker, iv r3.Listener, iv r3.Class, iv 1543, iv r3.Period, iv r3.Bucket.Burst, iv r3.Bucket.Rate, iv r3.Deadline, s_eSl_1_eI64 false r3.Routes, iv r3.Id, iv r3.Talker, iv r3.Listener, iv r3.Class, iv r3.Size, iv r3.Period, iv r3.Bucket.Burst, iv r3.Bucket.Rate, iv 0, s_eSl_1_eI64 false r3.Routes, iv r3.Id, iv r3.Talker, iv r3.Listener, iv r3.Class, iv r3.Size, iv 241, iv r3.Bucket.Burst, iv r3.Bucket.Rate, iv r3.Deadline, s_eSl_1_eI64 false r3.Routes, iv r3.Id, iv r3.Talker, iv r3.Listener, iv r3.Class, iv r3.Size, iv r3.Period, iv r3.Bucket.Burst, iv 1, iv r3.Deadline, s_eSl_1_eI64 false r3.Routes, iv r3.Id, iv r3.Talker, iv r3.Listener, iv 6, iv r3.Size, iv 1, iv 100, iv 1, iv r3.Deadline, s_eSl_1_eI64 false r3.Routes, iv r3.Id, iv r3.Talker, iv r3.Listener, iv 6, iv r3.Size, iv 0, iv 99, iv 1, iv r3.Deadline, s_eSl_1_eI64 false r3.Routes, iv r3.Id, iv r3.Talker, iv r3.Listener, iv 6, iv r3.Size, iv 0, iv 100, iv 0, iv r3.Deadline, s_eSl_1_eI64 false r3.Routes, iv r3.Id, iv r3.Talker, iv r3.Listener, iv 5, iv r3.Size, iv 0, iv 100, iv 1, iv r3.Deadline, s_eSl_1_eI64 false r3.Routes, iv r3.Id, iv r3.Talker, iv r3.Listener, iv r3.Class, iv r3.Size, iv r3.Period, iv r3.Bucket.Burst, iv r3.Bucket.Rate, iv r3.Deadline, s_eSl_1_eI64 true [], iv r3.Id, iv r3.Talker, iv r3.Listener, iv r3.Class, iv r3.Size, iv r3.Period, iv r3.Bucket.Burst, iv r3.Bucket.Rate, iv r3.Deadline, s_eSl_1_eI64 true [[0, 2], [0, 2]]])], []⟩) ?_ ?_
    · clear h
      obtain ⟨r534, hr534, hj⟩ := bs hj
      refine (EP.v 4 (st_call (by kernel_rfl) (stream_Check_ok N r1 (api_Stream.mk r3.Id r3.Talker r3.Listener r3.Class 1543 r3.Period r3.Bucket r3.Deadline r3.Routes) r534 hr534)) ?_)
      rcases ite_some hj with ⟨hc535, hj⟩ | ⟨hc536, hj⟩
      · obtain rfl := some_inj hj
        exact (EP.u 0 (st_bool (c := (r534 != 321)) (by kernel_rfl) hc535) (EP.f (by show _ = _; kernel_rfl)))
      refine (EP.u 0 (st_bool (c := (r534 != 321)) (by kernel_rfl) hc536) ?_)
      obtain ⟨r537, hr537, hj⟩ := bs hj
      obtain rfl := some_inj hj
      exact (EP.u 7 (st_callP (by kernel_rfl) (stream_CheckAll_ok N r1 ([r3, (api_Stream.mk r3.Id r3.Talker r3.Listener r3.Class 1543 r3.Period r3.Bucket r3.Deadline r3.Routes)]) r537 hr537)) (EP.f (by show _ = _; kernel_rfl)))
    clear hj
    rintro s hR
    obtain rfl := hR
    refine tq (it h (fun hc539 h => ?_) (fun hc539 h => ?_))
    · refine sq (rg APath.f ?_)
      refine tq (rt ?_)
      refine br (tr ?_)
      refine tr (br ?_)
      refine tr ?_
      obtain rfl := some_inj h
      exact ret_of (by kernel_rfl)
    refine sk (bn ?_)
    refine tq (kq ?_)
    refine rg APath.f (tq ?_)
    refine unr_step ?_
    refine sq (sq ?_)
    refine rg APath.f (tq ?_)
    refine vc_true (by kernel_rfl) ?_
    refine sk (tq ?_)
    refine kq (sq ?_)
    refine bk (sq ?_)
    obtain ⟨j544, hj, h⟩ := bs h
    refine rqR (fun s => s = ⟨[(1, .loc 1 0), (2, .loc 2 0), (3, .loc 3 0), (8, .loc 8 0), (9, .loc 9 0), (10, iv 4), (136, bv j544)], [(1, (c_api_Topo r1)), (2, (c_api_Setup r2)), (3, (c_api_Stream r3)), (8, [iv r3.Id, iv r3.Talker, iv r3.Listener, iv 6, iv r3.Size, iv 0, iv 100, iv 1, iv r3.Deadline, s_eSl_1_eI64 false r3.Routes]), (9, [iv 0, iv r3.Talker, iv r3.Listener, iv r3.Class, iv r3.Size, iv r3.Period, iv r3.Bucket.Burst, iv r3.Bucket.Rate, iv r3.Deadline, s_eSl_1_eI64 false r3.Routes, iv 4096, iv r3.Talker, iv r3.Listener, iv r3.Class, iv r3.Size, iv r3.Period, iv r3.Bucket.Burst, iv r3.Bucket.Rate, iv r3.Deadline, s_eSl_1_eI64 false r3.Routes, iv r3.Id, iv 1, iv r3.Listener, iv r3.Class, iv r3.Size, iv r3.Period, iv r3.Bucket.Burst, iv r3.Bucket.Rate, iv r3.Deadline, s_eSl_1_eI64 false r3.Routes, iv r3.Id, iv r3.Talker, iv r3.Listener, iv r3.Class, iv 1543, iv r3.Period, iv r3.Bucket.Burst, iv r3.Bucket.Rate, iv r3.Deadline, s_eSl_1_eI64 false r3.Routes, iv r3.Id, iv r3.Talker, iv r3.Listener, iv r3.Class, iv r3.Size, iv r3.Period, iv r3.Bucket.Burst, iv r3.Bucket.Rate, iv 0, s_eSl_1_eI64 false r3.Routes, iv r3.Id, iv r3.Talker, iv r3.Listener, iv r3.Class, iv r3.Size, iv 241, iv r3.Bucket.Burst, iv r3.Bucket.Rate, iv r3.Deadline, s_eSl_1_eI64 false r3.Routes, iv r3.Id, iv r3.Talker, iv r3.Listener, iv r3.Class, iv r3.Size, iv r3.Period, iv r3.Bucket.Burst, iv 1, iv r3.Deadline, s_eSl_1_eI64 false r3.Routes, iv r3.Id, iv r3.Talker, iv r3.Listener, iv 6, iv r3.Size, iv 1, iv 100, iv 1, iv r3.Deadline, s_eSl_1_eI64 false r3.Routes, iv r3.Id, iv r3.Talker, iv r3.Listener, iv 6, iv r3.Size, iv 0, iv 99, iv 1, iv r3.Deadline, s_eSl_1_eI64 false r3.Routes, iv r3.Id, iv r3.Talker, iv r3.Listener, iv 6, iv r3.Size, iv 0, iv 100, iv 0, iv r3.Deadline, s_eSl_1_eI64 false r3.Routes, iv r3.Id, iv r3.Talker, iv r3.Listener, iv 5, iv r3.Size, iv 0, iv 100, iv 1, iv r3.Deadline, s_eSl_1_eI64 false r3.Routes, iv r3.Id, iv r3.Talker, iv r3.Listener, iv r3.Class, iv r3.Size, iv r3.Period, iv r3.Bucket.Burst, iv r3.Bucket.Rate, iv r3.Deadline, s_eSl_1_eI64 true [], iv r3.Id, iv r3.Talker, iv r3.Listener, iv r3.Class, iv r3.Size, iv r3.Period, iv r3.Bucket.Burst, iv r3.Bucket.Rate, iv r3.Deadline, s_eSl_1_eI64 true [[0, 2], [0, 2]]])], []⟩) ?_ ?_
    · clear h
      obtain ⟨r540, hr540, hj⟩ := bs hj
      refine (EP.v 4 (st_call (by kernel_rfl) (stream_Check_ok N r1 (api_Stream.mk r3.Id r3.Talker r3.Listener r3.Class r3.Size r3.Period r3.Bucket 0 r3.Routes) r540 hr540)) ?_)
      rcases ite_some hj with ⟨hc541, hj⟩ | ⟨hc542, hj⟩
      · obtain rfl := some_inj hj
        exact (EP.u 0 (st_bool (c := (r540 != 321)) (by kernel_rfl) hc541) (EP.f (by show _ = _; kernel_rfl)))
      refine (EP.u 0 (st_bool (c := (r540 != 321)) (by kernel_rfl) hc542) ?_)
      obtain ⟨r543, hr543, hj⟩ := bs hj
      obtain rfl := some_inj hj
      exact (EP.u 7 (st_callP (by kernel_rfl) (stream_CheckAll_ok N r1 ([r3, (api_Stream.mk r3.Id r3.Talker r3.Listener r3.Class r3.Size r3.Period r3.Bucket 0 r3.Routes)]) r543 hr543)) (EP.f (by show _ = _; kernel_rfl)))
    clear hj
    rintro s hR
    obtain rfl := hR
    refine tq (it h (fun hc545 h => ?_) (fun hc545 h => ?_))
    · refine sq (rg APath.f ?_)
      refine tq (rt ?_)
      refine br (tr ?_)
      refine tr (br ?_)
      refine tr ?_
      obtain rfl := some_inj h
      exact ret_of (by kernel_rfl)
    refine sk (bn ?_)
    refine tq (kq ?_)
    refine rg APath.f (tq ?_)
    refine unr_step ?_
    refine sq (sq ?_)
    refine rg APath.f (tq ?_)
    refine vc_true (by kernel_rfl) ?_
    refine sk (tq ?_)
    refine kq (sq ?_)
    refine bk (sq ?_)
    obtain ⟨j550, hj, h⟩ := bs h
    refine rqR (fun s => s = ⟨[(1, .loc 1 0), (2, .loc 2 0), (3, .loc 3 0), (8, .loc 8 0), (9, .loc 9 0), (10, iv 5), (136, bv j550)], [(1, (c_api_Topo r1)), (2, (c_api_Setup r2)), (3, (c_api_Stream r3)), (8, [iv r3.Id, iv r3.Talker, iv r3.Listener, iv 6, iv r3.Size, iv 0, iv 100, iv 1, iv r3.Deadline, s_eSl_1_eI64 false r3.Routes]), (9, [iv 0, iv r3.Talker, iv r3.Listener, iv r3.Class, iv r3.Size, iv r3.Period, iv r3.Bucket.Burst, iv r3.Bucket.Rate, iv r3.Deadline, s_eSl_1_eI64 false r3.Routes, iv 4096, iv r3.Talker, iv r3.Listener, iv r3.Class, iv r3.Size, iv r3.Period, iv r3.Bucket.Burst, iv r3.Bucket.Rate, iv r3.Deadline, s_eSl_1_eI64 false r3.Routes, iv r3.Id, iv 1, iv r3.Listener, iv r3.Class, iv r3.Size, iv r3.Period, iv r3.Bucket.Burst, iv r3.Bucket.Rate, iv r3.Deadline, s_eSl_1_eI64 false r3.Routes, iv r3.Id, iv r3.Talker, iv r3.Listener, iv r3.Class, iv 1543, iv r3.Period, iv r3.Bucket.Burst, iv r3.Bucket.Rate, iv r3.Deadline, s_eSl_1_eI64 false r3.Routes, iv r3.Id, iv r3.Talker, iv r3.Listener, iv r3.Class, iv r3.Size, iv r3.Period, iv r3.Bucket.Burst, iv r3.Bucket.Rate, iv 0, s_eSl_1_eI64 false r3.Routes, iv r3.Id, iv r3.Talker, iv r3.Listener, iv r3.Class, iv r3.Size, iv 241, iv r3.Bucket.Burst, iv r3.Bucket.Rate, iv r3.Deadline, s_eSl_1_eI64 false r3.Routes, iv r3.Id, iv r3.Talker, iv r3.Listener, iv r3.Class, iv r3.Size, iv r3.Period, iv r3.Bucket.Burst, iv 1, iv r3.Deadline, s_eSl_1_eI64 false r3.Routes, iv r3.Id, iv r3.Talker, iv r3.Listener, iv 6, iv r3.Size, iv 1, iv 100, iv 1, iv r3.Deadline, s_eSl_1_eI64 false r3.Routes, iv r3.Id, iv r3.Talker, iv r3.Listener, iv 6, iv r3.Size, iv 0, iv 99, iv 1, iv r3.Deadline, s_eSl_1_eI64 false r3.Routes, iv r3.Id, iv r3.Talker, iv r3.Listener, iv 6, iv r3.Size, iv 0, iv 100, iv 0, iv r3.Deadline, s_eSl_1_eI64 false r3.Routes, iv r3.Id, iv r3.Talker, iv r3.Listener, iv 5, iv r3.Size, iv 0, iv 100, iv 1, iv r3.Deadline, s_eSl_1_eI64 false r3.Routes, iv r3.Id, iv r3.Talker, iv r3.Listener, iv r3.Class, iv r3.Size, iv r3.Period, iv r3.Bucket.Burst, iv r3.Bucket.Rate, iv r3.Deadline, s_eSl_1_eI64 true [], iv r3.Id, iv r3.Talker, iv r3.Listener, iv r3.Class, iv r3.Size, iv r3.Period, iv r3.Bucket.Burst, iv r3.Bucket.Rate, iv r3.Deadline, s_eSl_1_eI64 true [[0, 2], [0, 2]]])], []⟩) ?_ ?_
    · clear h
      obtain ⟨r546, hr546, hj⟩ := bs hj
      refine (EP.v 4 (st_call (by kernel_rfl) (stream_Check_ok N r1 (api_Stream.mk r3.Id r3.Talker r3.Listener r3.Class r3.Size 241 r3.Bucket r3.Deadline r3.Routes) r546 hr546)) ?_)
      rcases ite_some hj with ⟨hc547, hj⟩ | ⟨hc548, hj⟩
      · obtain rfl := some_inj hj
        exact (EP.u 0 (st_bool (c := (r546 != 321)) (by kernel_rfl) hc547) (EP.f (by show _ = _; kernel_rfl)))
      refine (EP.u 0 (st_bool (c := (r546 != 321)) (by kernel_rfl) hc548) ?_)
      obtain ⟨r549, hr549, hj⟩ := bs hj
      obtain rfl := some_inj hj
      exact (EP.u 7 (st_callP (by kernel_rfl) (stream_CheckAll_ok N r1 ([r3, (api_Stream.mk r3.Id r3.Talker r3.Listener r3.Class r3.Size 241 r3.Bucket r3.Deadline r3.Routes)]) r549 hr549)) (EP.f (by show _ = _; kernel_rfl)))
    clear hj
    rintro s hR
    obtain rfl := hR
    refine tq (it h (fun hc551 h => ?_) (fun hc551 h => ?_))
    · refine sq (rg APath.f ?_)
      refine tq (rt ?_)
      refine br (tr ?_)
      refine tr (br ?_)
      refine tr ?_
      obtain rfl := some_inj h
      exact ret_of (by kernel_rfl)
    refine sk (bn ?_)
    refine tq (kq ?_)
    refine rg APath.f (tq ?_)
    refine unr_step ?_
    refine sq (sq ?_)
    refine rg APath.f (tq ?_)
    refine vc_true (by kernel_rfl) ?_
    refine sk (tq ?_)
    refine kq (sq ?_)
    refine bk (sq ?_)
    obtain ⟨j556, hj, h⟩ := bs h
    refine rqR (fun s => s = ⟨[(1, .loc 1 0), (2, .loc 2 0), (3, .loc 3 0), (8, .loc 8 0), (9, .loc 9 0), (10, iv 6), (136, bv j556)], [(1, (c_api_Topo r1)), (2, (c_api_Setup r2)), (3, (c_api_Stream r3)), (8, [iv r3.Id, iv r3.Talker, iv r3.Listener, iv 6, iv r3.Size, iv 0, iv 100, iv 1, iv r3.Deadline, s_eSl_1_eI64 false r3.Routes]), (9, [iv 0, iv r3.Talker, iv r3.Listener, iv r3.Class, iv r3.Size, iv r3.Period, iv r3.Bucket.Burst, iv r3.Bucket.Rate, iv r3.Deadline, s_eSl_1_eI64 false r3.Routes, iv 4096, iv r3.Talker, iv r3.Listener, iv r3.Class, iv r3.Size, iv r3.Period, iv r3.Bucket.Burst, iv r3.Bucket.Rate, iv r3.Deadline, s_eSl_1_eI64 false r3.Routes, iv r3.Id, iv 1, iv r3.Listener, iv r3.Class, iv r3.Size, iv r3.Period, iv r3.Bucket.Burst, iv r3.Bucket.Rate, iv r3.Deadline, s_eSl_1_eI64 false r3.Routes, iv r3.Id, iv r3.Talker, iv r3.Listener, iv r3.Class, iv 1543, iv r3.Period, iv r3.Bucket.Burst, iv r3.Bucket.Rate, iv r3.Deadline, s_eSl_1_eI64 false r3.Routes, iv r3.Id, iv r3.Talker, iv r3.Listener, iv r3.Class, iv r3.Size, iv r3.Period, iv r3.Bucket.Burst, iv r3.Bucket.Rate, iv 0, s_eSl_1_eI64 false r3.Routes, iv r3.Id, iv r3.Talker, iv r3.Listener, iv r3.Class, iv r3.Size, iv 241, iv r3.Bucket.Burst, iv r3.Bucket.Rate, iv r3.Deadline, s_eSl_1_eI64 false r3.Routes, iv r3.Id, iv r3.Talker, iv r3.Listener, iv r3.Class, iv r3.Size, iv r3.Period, iv r3.Bucket.Burst, iv 1, iv r3.Deadline, s_eSl_1_eI64 false r3.Routes, iv r3.Id, iv r3.Talker, iv r3.Listener, iv 6, iv r3.Size, iv 1, iv 100, iv 1, iv r3.Deadline, s_eSl_1_eI64 false r3.Routes, iv r3.Id, iv r3.Talker, iv r3.Listener, iv 6, iv r3.Size, iv 0, iv 99, iv 1, iv r3.Deadline, s_eSl_1_eI64 false r3.Routes, iv r3.Id, iv r3.Talker, iv r3.Listener, iv 6, iv r3.Size, iv 0, iv 100, iv 0, iv r3.Deadline, s_eSl_1_eI64 false r3.Routes, iv r3.Id, iv r3.Talker, iv r3.Listener, iv 5, iv r3.Size, iv 0, iv 100, iv 1, iv r3.Deadline, s_eSl_1_eI64 false r3.Routes, iv r3.Id, iv r3.Talker, iv r3.Listener, iv r3.Class, iv r3.Size, iv r3.Period, iv r3.Bucket.Burst, iv r3.Bucket.Rate, iv r3.Deadline, s_eSl_1_eI64 true [], iv r3.Id, iv r3.Talker, iv r3.Listener, iv r3.Class, iv r3.Size, iv r3.Period, iv r3.Bucket.Burst, iv r3.Bucket.Rate, iv r3.Deadline, s_eSl_1_eI64 true [[0, 2], [0, 2]]])], []⟩) ?_ ?_
    · clear h
      obtain ⟨r552, hr552, hj⟩ := bs hj
      refine (EP.v 4 (st_call (by kernel_rfl) (stream_Check_ok N r1 (api_Stream.mk r3.Id r3.Talker r3.Listener r3.Class r3.Size r3.Period (api_Bucket.mk r3.Bucket.Burst 1) r3.Deadline r3.Routes) r552 hr552)) ?_)
      rcases ite_some hj with ⟨hc553, hj⟩ | ⟨hc554, hj⟩
      · obtain rfl := some_inj hj
        exact (EP.u 0 (st_bool (c := (r552 != 321)) (by kernel_rfl) hc553) (EP.f (by show _ = _; kernel_rfl)))
      refine (EP.u 0 (st_bool (c := (r552 != 321)) (by kernel_rfl) hc554) ?_)
      obtain ⟨r555, hr555, hj⟩ := bs hj
      obtain rfl := some_inj hj
      exact (EP.u 7 (st_callP (by kernel_rfl) (stream_CheckAll_ok N r1 ([r3, (api_Stream.mk r3.Id r3.Talker r3.Listener r3.Class r3.Size r3.Period (api_Bucket.mk r3.Bucket.Burst 1) r3.Deadline r3.Routes)]) r555 hr555)) (EP.f (by show _ = _; kernel_rfl)))
    clear hj
    rintro s hR
    obtain rfl := hR
    refine tq (it h (fun hc557 h => ?_) (fun hc557 h => ?_))
    · refine sq (rg APath.f ?_)
      refine tq (rt ?_)
      refine br (tr ?_)
      refine tr (br ?_)
      refine tr ?_
      obtain rfl := some_inj h
      exact ret_of (by kernel_rfl)
    refine sk (bn ?_)
    refine tq (kq ?_)
    refine rg APath.f (tq ?_)
    refine unr_step ?_
    refine sq (sq ?_)
    refine rg APath.f (tq ?_)
    refine vc_true (by kernel_rfl) ?_
    refine sk (tq ?_)
    refine kq (sq ?_)
    refine bk (sq ?_)
    obtain ⟨j562, hj, h⟩ := bs h
    refine rqR (fun s => s = ⟨[(1, .loc 1 0), (2, .loc 2 0), (3, .loc 3 0), (8, .loc 8 0), (9, .loc 9 0), (10, iv 7), (136, bv j562)], [(1, (c_api_Topo r1)), (2, (c_api_Setup r2)), (3, (c_api_Stream r3)), (8, [iv r3.Id, iv r3.Talker, iv r3.Listener, iv 6, iv r3.Size, iv 0, iv 100, iv 1, iv r3.Deadline, s_eSl_1_eI64 false r3.Routes]), (9, [iv 0, iv r3.Talker, iv r3.Listener, iv r3.Class, iv r3.Size, iv r3.Period, iv r3.Bucket.Burst, iv r3.Bucket.Rate, iv r3.Deadline, s_eSl_1_eI64 false r3.Routes, iv 4096, iv r3.Talker, iv r3.Listener, iv r3.Class, iv r3.Size, iv r3.Period, iv r3.Bucket.Burst, iv r3.Bucket.Rate, iv r3.Deadline, s_eSl_1_eI64 false r3.Routes, iv r3.Id, iv 1, iv r3.Listener, iv r3.Class, iv r3.Size, iv r3.Period, iv r3.Bucket.Burst, iv r3.Bucket.Rate, iv r3.Deadline, s_eSl_1_eI64 false r3.Routes, iv r3.Id, iv r3.Talker, iv r3.Listener, iv r3.Class, iv 1543, iv r3.Period, iv r3.Bucket.Burst, iv r3.Bucket.Rate, iv r3.Deadline, s_eSl_1_eI64 false r3.Routes, iv r3.Id, iv r3.Talker, iv r3.Listener, iv r3.Class, iv r3.Size, iv r3.Period, iv r3.Bucket.Burst, iv r3.Bucket.Rate, iv 0, s_eSl_1_eI64 false r3.Routes, iv r3.Id, iv r3.Talker, iv r3.Listener, iv r3.Class, iv r3.Size, iv 241, iv r3.Bucket.Burst, iv r3.Bucket.Rate, iv r3.Deadline, s_eSl_1_eI64 false r3.Routes, iv r3.Id, iv r3.Talker, iv r3.Listener, iv r3.Class, iv r3.Size, iv r3.Period, iv r3.Bucket.Burst, iv 1, iv r3.Deadline, s_eSl_1_eI64 false r3.Routes, iv r3.Id, iv r3.Talker, iv r3.Listener, iv 6, iv r3.Size, iv 1, iv 100, iv 1, iv r3.Deadline, s_eSl_1_eI64 false r3.Routes, iv r3.Id, iv r3.Talker, iv r3.Listener, iv 6, iv r3.Size, iv 0, iv 99, iv 1, iv r3.Deadline, s_eSl_1_eI64 false r3.Routes, iv r3.Id, iv r3.Talker, iv r3.Listener, iv 6, iv r3.Size, iv 0, iv 100, iv 0, iv r3.Deadline, s_eSl_1_eI64 false r3.Routes, iv r3.Id, iv r3.Talker, iv r3.Listener, iv 5, iv r3.Size, iv 0, iv 100, iv 1, iv r3.Deadline, s_eSl_1_eI64 false r3.Routes, iv r3.Id, iv r3.Talker, iv r3.Listener, iv r3.Class, iv r3.Size, iv r3.Period, iv r3.Bucket.Burst, iv r3.Bucket.Rate, iv r3.Deadline, s_eSl_1_eI64 true [], iv r3.Id, iv r3.Talker, iv r3.Listener, iv r3.Class, iv r3.Size, iv r3.Period, iv r3.Bucket.Burst, iv r3.Bucket.Rate, iv r3.Deadline, s_eSl_1_eI64 true [[0, 2], [0, 2]]])], []⟩) ?_ ?_
    · clear h
      obtain ⟨r558, hr558, hj⟩ := bs hj
      refine (EP.v 4 (st_call (by kernel_rfl) (stream_Check_ok N r1 (api_Stream.mk r3.Id r3.Talker r3.Listener 6 r3.Size 1 (api_Bucket.mk 100 1) r3.Deadline r3.Routes) r558 hr558)) ?_)
      rcases ite_some hj with ⟨hc559, hj⟩ | ⟨hc560, hj⟩
      · obtain rfl := some_inj hj
        exact (EP.u 0 (st_bool (c := (r558 != 321)) (by kernel_rfl) hc559) (EP.f (by show _ = _; kernel_rfl)))
      refine (EP.u 0 (st_bool (c := (r558 != 321)) (by kernel_rfl) hc560) ?_)
      obtain ⟨r561, hr561, hj⟩ := bs hj
      obtain rfl := some_inj hj
      exact (EP.u 7 (st_callP (by kernel_rfl) (stream_CheckAll_ok N r1 ([r3, (api_Stream.mk r3.Id r3.Talker r3.Listener 6 r3.Size 1 (api_Bucket.mk 100 1) r3.Deadline r3.Routes)]) r561 hr561)) (EP.f (by show _ = _; kernel_rfl)))
    clear hj
    rintro s hR
    obtain rfl := hR
    refine tq (it h (fun hc563 h => ?_) (fun hc563 h => ?_))
    · refine sq (rg APath.f ?_)
      refine tq (rt ?_)
      refine br (tr ?_)
      refine tr (br ?_)
      refine tr ?_
      obtain rfl := some_inj h
      exact ret_of (by kernel_rfl)
    refine sk (bn ?_)
    refine tq (kq ?_)
    refine rg APath.f (tq ?_)
    refine unr_step ?_
    refine sq (sq ?_)
    refine rg APath.f (tq ?_)
    refine vc_true (by kernel_rfl) ?_
    refine sk (tq ?_)
    refine kq (sq ?_)
    refine bk (sq ?_)
    obtain ⟨j568, hj, h⟩ := bs h
    refine rqR (fun s => s = ⟨[(1, .loc 1 0), (2, .loc 2 0), (3, .loc 3 0), (8, .loc 8 0), (9, .loc 9 0), (10, iv 8), (136, bv j568)], [(1, (c_api_Topo r1)), (2, (c_api_Setup r2)), (3, (c_api_Stream r3)), (8, [iv r3.Id, iv r3.Talker, iv r3.Listener, iv 6, iv r3.Size, iv 0, iv 100, iv 1, iv r3.Deadline, s_eSl_1_eI64 false r3.Routes]), (9, [iv 0, iv r3.Talker, iv r3.Listener, iv r3.Class, iv r3.Size, iv r3.Period, iv r3.Bucket.Burst, iv r3.Bucket.Rate, iv r3.Deadline, s_eSl_1_eI64 false r3.Routes, iv 4096, iv r3.Talker, iv r3.Listener, iv r3.Class, iv r3.Size, iv r3.Period, iv r3.Bucket.Burst, iv r3.Bucket.Rate, iv r3.Deadline, s_eSl_1_eI64 false r3.Routes, iv r3.Id, iv 1, iv r3.Listener, iv r3.Class, iv r3.Size, iv r3.Period, iv r3.Bucket.Burst, iv r3.Bucket.Rate, iv r3.Deadline, s_eSl_1_eI64 false r3.Routes, iv r3.Id, iv r3.Talker, iv r3.Listener, iv r3.Class, iv 1543, iv r3.Period, iv r3.Bucket.Burst, iv r3.Bucket.Rate, iv r3.Deadline, s_eSl_1_eI64 false r3.Routes, iv r3.Id, iv r3.Talker, iv r3.Listener, iv r3.Class, iv r3.Size, iv r3.Period, iv r3.Bucket.Burst, iv r3.Bucket.Rate, iv 0, s_eSl_1_eI64 false r3.Routes, iv r3.Id, iv r3.Talker, iv r3.Listener, iv r3.Class, iv r3.Size, iv 241, iv r3.Bucket.Burst, iv r3.Bucket.Rate, iv r3.Deadline, s_eSl_1_eI64 false r3.Routes, iv r3.Id, iv r3.Talker, iv r3.Listener, iv r3.Class, iv r3.Size, iv r3.Period, iv r3.Bucket.Burst, iv 1, iv r3.Deadline, s_eSl_1_eI64 false r3.Routes, iv r3.Id, iv r3.Talker, iv r3.Listener, iv 6, iv r3.Size, iv 1, iv 100, iv 1, iv r3.Deadline, s_eSl_1_eI64 false r3.Routes, iv r3.Id, iv r3.Talker, iv r3.Listener, iv 6, iv r3.Size, iv 0, iv 99, iv 1, iv r3.Deadline, s_eSl_1_eI64 false r3.Routes, iv r3.Id, iv r3.Talker, iv r3.Listener, iv 6, iv r3.Size, iv 0, iv 100, iv 0, iv r3.Deadline, s_eSl_1_eI64 false r3.Routes, iv r3.Id, iv r3.Talker, iv r3.Listener, iv 5, iv r3.Size, iv 0, iv 100, iv 1, iv r3.Deadline, s_eSl_1_eI64 false r3.Routes, iv r3.Id, iv r3.Talker, iv r3.Listener, iv r3.Class, iv r3.Size, iv r3.Period, iv r3.Bucket.Burst, iv r3.Bucket.Rate, iv r3.Deadline, s_eSl_1_eI64 true [], iv r3.Id, iv r3.Talker, iv r3.Listener, iv r3.Class, iv r3.Size, iv r3.Period, iv r3.Bucket.Burst, iv r3.Bucket.Rate, iv r3.Deadline, s_eSl_1_eI64 true [[0, 2], [0, 2]]])], []⟩) ?_ ?_
    · clear h
      obtain ⟨r564, hr564, hj⟩ := bs hj
      refine (EP.v 4 (st_call (by kernel_rfl) (stream_Check_ok N r1 (api_Stream.mk r3.Id r3.Talker r3.Listener 6 r3.Size 0 (api_Bucket.mk 99 1) r3.Deadline r3.Routes) r564 hr564)) ?_)
      rcases ite_some hj with ⟨hc565, hj⟩ | ⟨hc566, hj⟩
      · obtain rfl := some_inj hj
        exact (EP.u 0 (st_bool (c := (r564 != 321)) (by kernel_rfl) hc565) (EP.f (by show _ = _; kernel_rfl)))
      refine (EP.u 0 (st_bool (c := (r564 != 321)) (by kernel_rfl) hc566) ?_)
      obtain ⟨r567, hr567, hj⟩ := bs hj
      obtain rfl := some_inj hj
      exact (EP.u 7 (st_callP (by kernel_rfl) (stream_CheckAll_ok N r1 ([r3, (api_Stream.mk r3.Id r3.Talker r3.Listener 6 r3.Size 0 (api_Bucket.mk 99 1) r3.Deadline r3.Routes)]) r567 hr567)) (EP.f (by show _ = _; kernel_rfl)))
    clear hj
    rintro s hR
    obtain rfl := hR
    refine tq (it h (fun hc569 h => ?_) (fun hc569 h => ?_))
    · refine sq (rg APath.f ?_)
      refine tq (rt ?_)
      refine br (tr ?_)
      refine tr (br ?_)
      refine tr ?_
      obtain rfl := some_inj h
      exact ret_of (by kernel_rfl)
    refine sk (bn ?_)
    refine tq (kq ?_)
    refine rg APath.f (tq ?_)
    refine unr_step ?_
    refine sq (sq ?_)
    refine rg APath.f (tq ?_)
    refine vc_true (by kernel_rfl) ?_
    refine sk (tq ?_)
    refine kq (sq ?_)
    refine bk (sq ?_)
    obtain ⟨j574, hj, h⟩ := bs h
    refine rqR (fun s => s = ⟨[(1, .loc 1 0), (2, .loc 2 0), (3, .loc 3 0), (8, .loc 8 0), (9, .loc 9 0), (10, iv 9), (136, bv j574)], [(1, (c_api_Topo r1)), (2, (c_api_Setup r2)), (3, (c_api_Stream r3)), (8, [iv r3.Id, iv r3.Talker, iv r3.Listener, iv 6, iv r3.Size, iv 0, iv 100, iv 1, iv r3.Deadline, s_eSl_1_eI64 false r3.Routes]), (9, [iv 0, iv r3.Talker, iv r3.Listener, iv r3.Class, iv r3.Size, iv r3.Period, iv r3.Bucket.Burst, iv r3.Bucket.Rate, iv r3.Deadline, s_eSl_1_eI64 false r3.Routes, iv 4096, iv r3.Talker, iv r3.Listener, iv r3.Class, iv r3.Size, iv r3.Period, iv r3.Bucket.Burst, iv r3.Bucket.Rate, iv r3.Deadline, s_eSl_1_eI64 false r3.Routes, iv r3.Id, iv 1, iv r3.Listener, iv r3.Class, iv r3.Size, iv r3.Period, iv r3.Bucket.Burst, iv r3.Bucket.Rate, iv r3.Deadline, s_eSl_1_eI64 false r3.Routes, iv r3.Id, iv r3.Talker, iv r3.Listener, iv r3.Class, iv 1543, iv r3.Period, iv r3.Bucket.Burst, iv r3.Bucket.Rate, iv r3.Deadline, s_eSl_1_eI64 false r3.Routes, iv r3.Id, iv r3.Talker, iv r3.Listener, iv r3.Class, iv r3.Size, iv r3.Period, iv r3.Bucket.Burst, iv r3.Bucket.Rate, iv 0, s_eSl_1_eI64 false r3.Routes, iv r3.Id, iv r3.Talker, iv r3.Listener, iv r3.Class, iv r3.Size, iv 241, iv r3.Bucket.Burst, iv r3.Bucket.Rate, iv r3.Deadline, s_eSl_1_eI64 false r3.Routes, iv r3.Id, iv r3.Talker, iv r3.Listener, iv r3.Class, iv r3.Size, iv r3.Period, iv r3.Bucket.Burst, iv 1, iv r3.Deadline, s_eSl_1_eI64 false r3.Routes, iv r3.Id, iv r3.Talker, iv r3.Listener, iv 6, iv r3.Size, iv 1, iv 100, iv 1, iv r3.Deadline, s_eSl_1_eI64 false r3.Routes, iv r3.Id, iv r3.Talker, iv r3.Listener, iv 6, iv r3.Size, iv 0, iv 99, iv 1, iv r3.Deadline, s_eSl_1_eI64 false r3.Routes, iv r3.Id, iv r3.Talker, iv r3.Listener, iv 6, iv r3.Size, iv 0, iv 100, iv 0, iv r3.Deadline, s_eSl_1_eI64 false r3.Routes, iv r3.Id, iv r3.Talker, iv r3.Listener, iv 5, iv r3.Size, iv 0, iv 100, iv 1, iv r3.Deadline, s_eSl_1_eI64 false r3.Routes, iv r3.Id, iv r3.Talker, iv r3.Listener, iv r3.Class, iv r3.Size, iv r3.Period, iv r3.Bucket.Burst, iv r3.Bucket.Rate, iv r3.Deadline, s_eSl_1_eI64 true [], iv r3.Id, iv r3.Talker, iv r3.Listener, iv r3.Class, iv r3.Size, iv r3.Period, iv r3.Bucket.Burst, iv r3.Bucket.Rate, iv r3.Deadline, s_eSl_1_eI64 true [[0, 2], [0, 2]]])], []⟩) ?_ ?_
    · clear h
      obtain ⟨r570, hr570, hj⟩ := bs hj
      refine (EP.v 4 (st_call (by kernel_rfl) (stream_Check_ok N r1 (api_Stream.mk r3.Id r3.Talker r3.Listener 6 r3.Size 0 (api_Bucket.mk 100 0) r3.Deadline r3.Routes) r570 hr570)) ?_)
      rcases ite_some hj with ⟨hc571, hj⟩ | ⟨hc572, hj⟩
      · obtain rfl := some_inj hj
        exact (EP.u 0 (st_bool (c := (r570 != 321)) (by kernel_rfl) hc571) (EP.f (by show _ = _; kernel_rfl)))
      refine (EP.u 0 (st_bool (c := (r570 != 321)) (by kernel_rfl) hc572) ?_)
      obtain ⟨r573, hr573, hj⟩ := bs hj
      obtain rfl := some_inj hj
      exact (EP.u 7 (st_callP (by kernel_rfl) (stream_CheckAll_ok N r1 ([r3, (api_Stream.mk r3.Id r3.Talker r3.Listener 6 r3.Size 0 (api_Bucket.mk 100 0) r3.Deadline r3.Routes)]) r573 hr573)) (EP.f (by show _ = _; kernel_rfl)))
    clear hj
    rintro s hR
    obtain rfl := hR
    refine tq (it h (fun hc575 h => ?_) (fun hc575 h => ?_))
    · refine sq (rg APath.f ?_)
      refine tq (rt ?_)
      refine br (tr ?_)
      refine tr (br ?_)
      refine tr ?_
      obtain rfl := some_inj h
      exact ret_of (by kernel_rfl)
    refine sk (bn ?_)
    refine tq (kq ?_)
    refine rg APath.f (tq ?_)
    refine unr_step ?_
    refine sq (sq ?_)
    refine rg APath.f (tq ?_)
    refine vc_true (by kernel_rfl) ?_
    refine sk (tq ?_)
    refine kq (sq ?_)
    refine bk (sq ?_)
    obtain ⟨j580, hj, h⟩ := bs h
    refine rqR (fun s => s = ⟨[(1, .loc 1 0), (2, .loc 2 0), (3, .loc 3 0), (8, .loc 8 0), (9, .loc 9 0), (10, iv 10), (136, bv j580)], [(1, (c_api_Topo r1)), (2, (c_api_Setup r2)), (3, (c_api_Stream r3)), (8, [iv r3.Id, iv r3.Talker, iv r3.Listener, iv 6, iv r3.Size, iv 0, iv 100, iv 1, iv r3.Deadline, s_eSl_1_eI64 false r3.Routes]), (9, [iv 0, iv r3.Talker, iv r3.Listener, iv r3.Class, iv r3.Size, iv r3.Period, iv r3.Bucket.Burst, iv r3.Bucket.Rate, iv r3.Deadline, s_eSl_1_eI64 false r3.Routes, iv 4096, iv r3.Talker, iv r3.Listener, iv r3.Class, iv r3.Size, iv r3.Period, iv r3.Bucket.Burst, iv r3.Bucket.Rate, iv r3.Deadline, s_eSl_1_eI64 false r3.Routes, iv r3.Id, iv 1, iv r3.Listener, iv r3.Class, iv r3.Size, iv r3.Period, iv r3.Bucket.Burst, iv r3.Bucket.Rate, iv r3.Deadline, s_eSl_1_eI64 false r3.Routes, iv r3.Id, iv r3.Talker, iv r3.Listener, iv r3.Class, iv 1543, iv r3.Period, iv r3.Bucket.Burst, iv r3.Bucket.Rate, iv r3.Deadline, s_eSl_1_eI64 false r3.Routes, iv r3.Id, iv r3.Talker, iv r3.Listener, iv r3.Class, iv r3.Size, iv r3.Period, iv r3.Bucket.Burst, iv r3.Bucket.Rate, iv 0, s_eSl_1_eI64 false r3.Routes, iv r3.Id, iv r3.Talker, iv r3.Listener, iv r3.Class, iv r3.Size, iv 241, iv r3.Bucket.Burst, iv r3.Bucket.Rate, iv r3.Deadline, s_eSl_1_eI64 false r3.Routes, iv r3.Id, iv r3.Talker, iv r3.Listener, iv r3.Class, iv r3.Size, iv r3.Period, iv r3.Bucket.Burst, iv 1, iv r3.Deadline, s_eSl_1_eI64 false r3.Routes, iv r3.Id, iv r3.Talker, iv r3.Listener, iv 6, iv r3.Size, iv 1, iv 100, iv 1, iv r3.Deadline, s_eSl_1_eI64 false r3.Routes, iv r3.Id, iv r3.Talker, iv r3.Listener, iv 6, iv r3.Size, iv 0, iv 99, iv 1, iv r3.Deadline, s_eSl_1_eI64 false r3.Routes, iv r3.Id, iv r3.Talker, iv r3.Listener, iv 6, iv r3.Size, iv 0, iv 100, iv 0, iv r3.Deadline, s_eSl_1_eI64 false r3.Routes, iv r3.Id, iv r3.Talker, iv r3.Listener, iv 5, iv r3.Size, iv 0, iv 100, iv 1, iv r3.Deadline, s_eSl_1_eI64 false r3.Routes, iv r3.Id, iv r3.Talker, iv r3.Listener, iv r3.Class, iv r3.Size, iv r3.Period, iv r3.Bucket.Burst, iv r3.Bucket.Rate, iv r3.Deadline, s_eSl_1_eI64 true [], iv r3.Id, iv r3.Talker, iv r3.Listener, iv r3.Class, iv r3.Size, iv r3.Period, iv r3.Bucket.Burst, iv r3.Bucket.Rate, iv r3.Deadline, s_eSl_1_eI64 true [[0, 2], [0, 2]]])], []⟩) ?_ ?_
    · clear h
      obtain ⟨r576, hr576, hj⟩ := bs hj
      refine (EP.v 4 (st_call (by kernel_rfl) (stream_Check_ok N r1 (api_Stream.mk r3.Id r3.Talker r3.Listener 5 r3.Size 0 (api_Bucket.mk 100 1) r3.Deadline r3.Routes) r576 hr576)) ?_)
      rcases ite_some hj with ⟨hc577, hj⟩ | ⟨hc578, hj⟩
      · obtain rfl := some_inj hj
        exact (EP.u 0 (st_bool (c := (r576 != 321)) (by kernel_rfl) hc577) (EP.f (by show _ = _; kernel_rfl)))
      refine (EP.u 0 (st_bool (c := (r576 != 321)) (by kernel_rfl) hc578) ?_)
      obtain ⟨r579, hr579, hj⟩ := bs hj
      obtain rfl := some_inj hj
      exact (EP.u 7 (st_callP (by kernel_rfl) (stream_CheckAll_ok N r1 ([r3, (api_Stream.mk r3.Id r3.Talker r3.Listener 5 r3.Size 0 (api_Bucket.mk 100 1) r3.Deadline r3.Routes)]) r579 hr579)) (EP.f (by show _ = _; kernel_rfl)))
    clear hj
    rintro s hR
    obtain rfl := hR
    refine tq (it h (fun hc581 h => ?_) (fun hc581 h => ?_))
    · refine sq (rg APath.f ?_)
      refine tq (rt ?_)
      refine br (tr ?_)
      refine tr (br ?_)
      refine tr ?_
      obtain rfl := some_inj h
      exact ret_of (by kernel_rfl)
    refine sk (bn ?_)
    refine tq (kq ?_)
    refine rg APath.f (tq ?_)
    refine unr_step ?_
    refine sq (sq ?_)
    refine rg APath.f (tq ?_)
    refine vc_true (by kernel_rfl) ?_
    refine sk (tq ?_)
    refine kq (sq ?_)
    refine bk (sq ?_)
    obtain ⟨j586, hj, h⟩ := bs h
    refine rqR (fun s => s = ⟨[(1, .loc 1 0), (2, .loc 2 0), (3, .loc 3 0), (8, .loc 8 0), (9, .loc 9 0), (10, iv 11), (136, bv j586)], [(1, (c_api_Topo r1)), (2, (c_api_Setup r2)), (3, (c_api_Stream r3)), (8, [iv r3.Id, iv r3.Talker, iv r3.Listener, iv 6, iv r3.Size, iv 0, iv 100, iv 1, iv r3.Deadline, s_eSl_1_eI64 false r3.Routes]), (9, [iv 0, iv r3.Talker, iv r3.Listener, iv r3.Class, iv r3.Size, iv r3.Period, iv r3.Bucket.Burst, iv r3.Bucket.Rate, iv r3.Deadline, s_eSl_1_eI64 false r3.Routes, iv 4096, iv r3.Talker, iv r3.Listener, iv r3.Class, iv r3.Size, iv r3.Period, iv r3.Bucket.Burst, iv r3.Bucket.Rate, iv r3.Deadline, s_eSl_1_eI64 false r3.Routes, iv r3.Id, iv 1, iv r3.Listener, iv r3.Class, iv r3.Size, iv r3.Period, iv r3.Bucket.Burst, iv r3.Bucket.Rate, iv r3.Deadline, s_eSl_1_eI64 false r3.Routes, iv r3.Id, iv r3.Talker, iv r3.Listener, iv r3.Class, iv 1543, iv r3.Period, iv r3.Bucket.Burst, iv r3.Bucket.Rate, iv r3.Deadline, s_eSl_1_eI64 false r3.Routes, iv r3.Id, iv r3.Talker, iv r3.Listener, iv r3.Class, iv r3.Size, iv r3.Period, iv r3.Bucket.Burst, iv r3.Bucket.Rate, iv 0, s_eSl_1_eI64 false r3.Routes, iv r3.Id, iv r3.Talker, iv r3.Listener, iv r3.Class, iv r3.Size, iv 241, iv r3.Bucket.Burst, iv r3.Bucket.Rate, iv r3.Deadline, s_eSl_1_eI64 false r3.Routes, iv r3.Id, iv r3.Talker, iv r3.Listener, iv r3.Class, iv r3.Size, iv r3.Period, iv r3.Bucket.Burst, iv 1, iv r3.Deadline, s_eSl_1_eI64 false r3.Routes, iv r3.Id, iv r3.Talker, iv r3.Listener, iv 6, iv r3.Size, iv 1, iv 100, iv 1, iv r3.Deadline, s_eSl_1_eI64 false r3.Routes, iv r3.Id, iv r3.Talker, iv r3.Listener, iv 6, iv r3.Size, iv 0, iv 99, iv 1, iv r3.Deadline, s_eSl_1_eI64 false r3.Routes, iv r3.Id, iv r3.Talker, iv r3.Listener, iv 6, iv r3.Size, iv 0, iv 100, iv 0, iv r3.Deadline, s_eSl_1_eI64 false r3.Routes, iv r3.Id, iv r3.Talker, iv r3.Listener, iv 5, iv r3.Size, iv 0, iv 100, iv 1, iv r3.Deadline, s_eSl_1_eI64 false r3.Routes, iv r3.Id, iv r3.Talker, iv r3.Listener, iv r3.Class, iv r3.Size, iv r3.Period, iv r3.Bucket.Burst, iv r3.Bucket.Rate, iv r3.Deadline, s_eSl_1_eI64 true [], iv r3.Id, iv r3.Talker, iv r3.Listener, iv r3.Class, iv r3.Size, iv r3.Period, iv r3.Bucket.Burst, iv r3.Bucket.Rate, iv r3.Deadline, s_eSl_1_eI64 true [[0, 2], [0, 2]]])], []⟩) ?_ ?_
    · clear h
      obtain ⟨r582, hr582, hj⟩ := bs hj
      refine (EP.v 4 (st_call (by kernel_rfl) (stream_Check_ok N r1 (api_Stream.mk r3.Id r3.Talker r3.Listener r3.Class r3.Size r3.Period r3.Bucket r3.Deadline ([])) r582 hr582)) ?_)
      rcases ite_some hj with ⟨hc583, hj⟩ | ⟨hc584, hj⟩
      · obtain rfl := some_inj hj
        exact (EP.u 0 (st_bool (c := (r582 != 321)) (by kernel_rfl) hc583) (EP.f (by show _ = _; kernel_rfl)))
      refine (EP.u 0 (st_bool (c := (r582 != 321)) (by kernel_rfl) hc584) ?_)
      obtain ⟨r585, hr585, hj⟩ := bs hj
      obtain rfl := some_inj hj
      exact (EP.u 7 (st_callP (by kernel_rfl) (stream_CheckAll_ok N r1 ([r3, (api_Stream.mk r3.Id r3.Talker r3.Listener r3.Class r3.Size r3.Period r3.Bucket r3.Deadline ([]))]) r585 hr585)) (EP.f (by show _ = _; kernel_rfl)))
    clear hj
    rintro s hR
    obtain rfl := hR
    refine tq (it h (fun hc587 h => ?_) (fun hc587 h => ?_))
    · refine sq (rg APath.f ?_)
      refine tq (rt ?_)
      refine br (tr ?_)
      refine tr (br ?_)
      refine tr ?_
      obtain rfl := some_inj h
      exact ret_of (by kernel_rfl)
    refine sk (bn ?_)
    refine tq (kq ?_)
    refine rg APath.f (tq ?_)
    refine unr_step ?_
    refine sq (sq ?_)
    refine rg APath.f (tq ?_)
    refine vc_true (by kernel_rfl) ?_
    refine sk (tq ?_)
    refine kq (sq ?_)
    refine bk (sq ?_)
    obtain ⟨j592, hj, h⟩ := bs h
    refine rqR (fun s => s = ⟨[(1, .loc 1 0), (2, .loc 2 0), (3, .loc 3 0), (8, .loc 8 0), (9, .loc 9 0), (10, iv 12), (136, bv j592)], [(1, (c_api_Topo r1)), (2, (c_api_Setup r2)), (3, (c_api_Stream r3)), (8, [iv r3.Id, iv r3.Talker, iv r3.Listener, iv 6, iv r3.Size, iv 0, iv 100, iv 1, iv r3.Deadline, s_eSl_1_eI64 false r3.Routes]), (9, [iv 0, iv r3.Talker, iv r3.Listener, iv r3.Class, iv r3.Size, iv r3.Period, iv r3.Bucket.Burst, iv r3.Bucket.Rate, iv r3.Deadline, s_eSl_1_eI64 false r3.Routes, iv 4096, iv r3.Talker, iv r3.Listener, iv r3.Class, iv r3.Size, iv r3.Period, iv r3.Bucket.Burst, iv r3.Bucket.Rate, iv r3.Deadline, s_eSl_1_eI64 false r3.Routes, iv r3.Id, iv 1, iv r3.Listener, iv r3.Class, iv r3.Size, iv r3.Period, iv r3.Bucket.Burst, iv r3.Bucket.Rate, iv r3.Deadline, s_eSl_1_eI64 false r3.Routes, iv r3.Id, iv r3.Talker, iv r3.Listener, iv r3.Class, iv 1543, iv r3.Period, iv r3.Bucket.Burst, iv r3.Bucket.Rate, iv r3.Deadline, s_eSl_1_eI64 false r3.Routes, iv r3.Id, iv r3.Talker, iv r3.Listener, iv r3.Class, iv r3.Size, iv r3.Period, iv r3.Bucket.Burst, iv r3.Bucket.Rate, iv 0, s_eSl_1_eI64 false r3.Routes, iv r3.Id, iv r3.Talker, iv r3.Listener, iv r3.Class, iv r3.Size, iv 241, iv r3.Bucket.Burst, iv r3.Bucket.Rate, iv r3.Deadline, s_eSl_1_eI64 false r3.Routes, iv r3.Id, iv r3.Talker, iv r3.Listener, iv r3.Class, iv r3.Size, iv r3.Period, iv r3.Bucket.Burst, iv 1, iv r3.Deadline, s_eSl_1_eI64 false r3.Routes, iv r3.Id, iv r3.Talker, iv r3.Listener, iv 6, iv r3.Size, iv 1, iv 100, iv 1, iv r3.Deadline, s_eSl_1_eI64 false r3.Routes, iv r3.Id, iv r3.Talker, iv r3.Listener, iv 6, iv r3.Size, iv 0, iv 99, iv 1, iv r3.Deadline, s_eSl_1_eI64 false r3.Routes, iv r3.Id, iv r3.Talker, iv r3.Listener, iv 6, iv r3.Size, iv 0, iv 100, iv 0, iv r3.Deadline, s_eSl_1_eI64 false r3.Routes, iv r3.Id, iv r3.Talker, iv r3.Listener, iv 5, iv r3.Size, iv 0, iv 100, iv 1, iv r3.Deadline, s_eSl_1_eI64 false r3.Routes, iv r3.Id, iv r3.Talker, iv r3.Listener, iv r3.Class, iv r3.Size, iv r3.Period, iv r3.Bucket.Burst, iv r3.Bucket.Rate, iv r3.Deadline, s_eSl_1_eI64 true [], iv r3.Id, iv r3.Talker, iv r3.Listener, iv r3.Class, iv r3.Size, iv r3.Period, iv r3.Bucket.Burst, iv r3.Bucket.Rate, iv r3.Deadline, s_eSl_1_eI64 true [[0, 2], [0, 2]]])], []⟩) ?_ ?_
    · clear h
      obtain ⟨r588, hr588, hj⟩ := bs hj
      refine (EP.v 4 (st_call (by kernel_rfl) (stream_Check_ok N r1 (api_Stream.mk r3.Id r3.Talker r3.Listener r3.Class r3.Size r3.Period r3.Bucket r3.Deadline ([[0, 2], [0, 2]])) r588 hr588)) ?_)
      rcases ite_some hj with ⟨hc589, hj⟩ | ⟨hc590, hj⟩
      · obtain rfl := some_inj hj
        exact (EP.u 0 (st_bool (c := (r588 != 321)) (by kernel_rfl) hc589) (EP.f (by show _ = _; kernel_rfl)))
      refine (EP.u 0 (st_bool (c := (r588 != 321)) (by kernel_rfl) hc590) ?_)
      obtain ⟨r591, hr591, hj⟩ := bs hj
      obtain rfl := some_inj hj
      exact (EP.u 7 (st_callP (by kernel_rfl) (stream_CheckAll_ok N r1 ([r3, (api_Stream.mk r3.Id r3.Talker r3.Listener r3.Class r3.Size r3.Period r3.Bucket r3.Deadline ([[0, 2], [0, 2]]))]) r591 hr591)) (EP.f (by show _ = _; kernel_rfl)))
    clear hj
    rintro s hR
    obtain rfl := hR
    refine tq (it h (fun hc593 h => ?_) (fun hc593 h => ?_))
    · refine sq (rg APath.f ?_)
      refine tq (rt ?_)
      refine br (tr ?_)
      refine tr (br ?_)
      refine tr ?_
      obtain rfl := some_inj h
      exact ret_of (by kernel_rfl)
    refine sk (bn ?_)
    refine tq (kq ?_)
    refine rg APath.f (tq ?_)
    refine unr_step ?_
    refine sq (sq ?_)
    refine rg APath.f (tq ?_)
    refine vc_false (by kernel_rfl) ?_
    refine kq (xq ?_)
    refine tx (tx ?_)
    refine bx (tq ?_)
    refine sq (rg APath.f ?_)
    refine tq (sq ?_)
    refine rg APath.f (tq ?_)
    refine sq ?_
    obtain ⟨r594, hr594, h⟩ := bs h
    refine rg (APath.v 3 (st_call (by kernel_rfl) (stream_Told_ok N (api_Topo.mk 4 ([false, false, true, true]) ([(api_Link.mk 2 0 1 0), (api_Link.mk 2 1 1 0), (api_Link.mk 0 3 2 0), (api_Link.mk 1 3 2 0)])) (api_Setup.mk 1 0 0 1542) (api_Stream.mk 9 2 3 7 84 1 (api_Bucket.mk 0 0) 1 ([[0, 4], [2, 6]])) 1 r594 hr594)) APath.f) (tq ?_)
    refine sq ?_
    obtain ⟨r595, hr595, h⟩ := bs h
    refine rg (APath.v 3 (st_call (by kernel_rfl) (stream_Told_ok N (api_Topo.mk 4 ([false, false, true, true]) ([(api_Link.mk 2 0 1 0), (api_Link.mk 2 1 1 0), (api_Link.mk 0 3 2 0), (api_Link.mk 1 3 2 0)])) (api_Setup.mk 1 0 0 1542) (api_Stream.mk 9 2 3 7 84 1 (api_Bucket.mk 0 0) 1 ([[0, 4], [2, 6]])) 2 r595 hr595)) APath.f) (tq ?_)
    refine sq ?_
    obtain ⟨r596, hr596, h⟩ := bs h
    refine rg (APath.v 3 (st_call (by kernel_rfl) (stream_Told_ok N r1 r2 (api_Stream.mk r3.Id r3.Talker r3.Listener 6 r3.Size 0 (api_Bucket.mk 100 1) r3.Deadline r3.Routes) 0 r596 hr596)) APath.f) (tq ?_)
    refine sq ?_
    obtain ⟨r597, hr597, h⟩ := bs h
    refine rg (APath.v 3 (st_call (by kernel_rfl) (stream_Hops_ok N (api_Topo.mk 0 ([]) ([])) (api_Setup.mk 0 0 0 0) (api_Stream.mk 0 0 0 0 0 0 (api_Bucket.mk 0 0) 0 ([])) 0 r597 hr597)) APath.f) (tq ?_)
    refine sq ?_
    obtain ⟨r598, hr598, h⟩ := bs h
    refine rg (APath.v 3 (st_call (by kernel_rfl) (stream_Hops_ok N r1 r2 (api_Stream.mk 0 0 0 0 0 0 (api_Bucket.mk 0 0) 0 ([])) (-1) r598 hr598)) APath.f) (tq ?_)
    refine sq ?_
    obtain ⟨r599, hr599, h⟩ := bs h
    refine rg (APath.v 4 (st_call (by kernel_rfl) (stream_Index_ok N ([(api_Stream.mk 3 0 0 0 0 0 (api_Bucket.mk 0 0) 0 ([])), (api_Stream.mk 4 0 0 0 0 0 (api_Bucket.mk 0 0) 0 ([])), (api_Stream.mk 4 0 0 0 0 0 (api_Bucket.mk 0 0) 0 ([]))]) 4 r599 hr599)) APath.f) (tq ?_)
    refine sq ?_
    obtain ⟨r600, hr600, h⟩ := bs h
    refine rg (APath.v 0 (st_call (by kernel_rfl) (stream_Index_ok N ([]) 0 r600 hr600)) APath.f) (tq ?_)
    refine sq ?_
    obtain ⟨j611, hj, h⟩ := bs h
    refine rgR (fun s => s = ⟨[(1, .loc 1 0), (3, .loc 3 0), (11, .loc 11 0), (13, iv r594.1), (14, iv r594.2), (16, iv r595.2), (18, iv r596.2), (20, iv r597.2), (22, iv r598.2), (23, iv r599.1), (24, iv r599.2), (26, iv r600.2), (27, bv j611)], [(1, (c_api_Topo r1)), (3, (c_api_Stream r3)), (11, [iv 4, s_eB true [false, false, true, true], s_e_api_Link true [(api_Link.mk 2 0 1 0), (api_Link.mk 2 1 1 0), (api_Link.mk 0 3 2 0), (api_Link.mk 1 3 2 0)]])], []⟩) ?_ ?_
    · clear h
      obtain ⟨r601, hr601, hj⟩ := bs hj
      refine (EP.v 1 (st_call (by kernel_rfl) (stream_CheckSetup_ok N r2 r601 hr601)) ?_)
      rcases ite_some hj with ⟨hc602, hj⟩ | ⟨hc610, hj⟩
      · refine (EP.u 0 (st_bool (c := (r601 == 0)) (by kernel_rfl) hc602) ?_)
        obtain ⟨r603, hr603, hj⟩ := bs hj
        refine (EP.v 3 (st_call (by kernel_rfl) (stream_Check_ok N r1 (api_Stream.mk r3.Id r3.Talker r3.Listener 6 r3.Size 0 (api_Bucket.mk 100 1) r3.Deadline r3.Routes) r603 hr603)) ?_)
        rcases ite_some hj with ⟨hc604, hj⟩ | ⟨hc609, hj⟩
        · refine (EP.u 0 (st_bool (c := (r603 == 0)) (by kernel_rfl) hc604) ?_)
          obtain ⟨r605, hr605, hj⟩ := bs hj
          refine (EP.v 4 (st_call (by kernel_rfl) (stream_Check_ok N (api_Topo.mk 4 ([false, false, true, true]) ([(api_Link.mk 2 0 1 0), (api_Link.mk 2 1 1 0), (api_Link.mk 0 3 2 0), (api_Link.mk 1 3 2 0)])) (api_Stream.mk 9 2 3 7 84 1 (api_Bucket.mk 0 0) 1 ([[0, 4], [2, 6]])) r605 hr605)) ?_)
          rcases ite_some hj with ⟨hc606, hj⟩ | ⟨hc608, hj⟩
          · refine (EP.u 0 (st_bool (c := (r605 == 0)) (by kernel_rfl) hc606) ?_)
            obtain ⟨r607, hr607, hj⟩ := bs hj
            obtain rfl := some_inj hj
            exact (EP.v 3 (st_call (by kernel_rfl) (stream_CheckAll_ok N r1 ([]) r607 hr607)) (EP.f (by show _ = _; kernel_rfl)))
          obtain rfl := some_inj hj
          exact (EP.u 0 (st_bool (c := (r605 == 0)) (by kernel_rfl) hc608) (EP.f (by show _ = _; kernel_rfl)))
        obtain rfl := some_inj hj
        exact (EP.u 0 (st_bool (c := (r603 == 0)) (by kernel_rfl) hc609) (EP.f (by show _ = _; kernel_rfl)))
      obtain rfl := some_inj hj
      exact (EP.u 0 (st_bool (c := (r601 == 0)) (by kernel_rfl) hc610) (EP.f (by show _ = _; kernel_rfl)))
    clear hj
    rintro s hR
    obtain rfl := hR
    refine tq (sq ?_)
    obtain ⟨j628, hj, h⟩ := bs h
    refine rqR (fun s => ∃ (H627 : List HO), s = ⟨[(11, .loc 11 0), (13, iv r594.1), (14, iv r594.2), (16, iv r595.2), (18, iv r596.2), (23, iv r599.1), (24, iv r599.2), (26, iv r600.2), (27, bv j611), (28, bv j628)], [(11, [iv 4, s_eB true [false, false, true, true], s_e_api_Link true [(api_Link.mk 2 0 1 0), (api_Link.mk 2 1 1 0), (api_Link.mk 0 3 2 0), (api_Link.mk 1 3 2 0)]])], H627⟩ ∧ HP H627 []) ?_ ?_
    · clear h
      obtain ⟨r612, hr612, hj⟩ := bs hj
      refine (EP.v 2 (st_call (by kernel_rfl) (stream_Check_ok N (api_Topo.mk 0 ([]) ([])) r3 r612 hr612)) ?_)
      rcases ite_some hj with ⟨hc613, hj⟩ | ⟨hc626, hj⟩
      · refine (EP.u 0 (st_bool (c := (r612 == 260)) (by kernel_rfl) hc613) ?_)
        obtain ⟨a614, H615, hH615, hH⟩ := HP.newFrz hH 10 (List.replicate 13 [.int .i64 0, .int .i64 0, .int .i64 0, .int .i64 0, .int .i64 0, .int .i64 0, .int .i64 0, .int .i64 0, .int .i64 0, .sl 1 false (List.map (eSl 1 eI64) [])])
        replace hH : HP H615 [.arr a614 10 true (List.map e_api_Stream (List.replicate 13 (api_Stream.mk 0 0 0 0 0 0 (api_Bucket.mk 0 0) 0 ([]))))] := HP.at hH
        refine (EP.h 2 (st_mkP (m := 13) (zero := [.int .i64 0, .int .i64 0, .int .i64 0, .int .i64 0, .int .i64 0, .int .i64 0, .int .i64 0, .int .i64 0, .int .i64 0, .sl 1 false (List.map (eSl 1 eI64) [])]) (bytes := 96) (H := []) (by kernel_rfl) (by decide) hH615) ?_)
        obtain ⟨r616, hr616, hj⟩ := bs hj
        refine (EP.u 0 (st_callP (by kernel_rfl) (stream_CheckAll_ok N r1 (List.replicate 13 (api_Stream.mk 0 0 0 0 0 0 (api_Bucket.mk 0 0) 0 ([]))) r616 hr616)) ?_)
        rcases ite_some hj with ⟨hc617, hj⟩ | ⟨hc625, hj⟩
        · refine (EP.u 0 (st_bool (c := (r616 == 3)) (by kernel_rfl) hc617) ?_)
          obtain ⟨a618, H619, hH619, hH⟩ := HP.newFrz hH 10 (List.replicate 13 [.int .i64 0, .int .i64 0, .int .i64 0, .int .i64 0, .int .i64 0, .int .i64 0, .int .i64 0, .int .i64 0, .int .i64 0, .sl 1 false (List.map (eSl 1 eI64) [])])
          replace hH : HP H619 [.arr a618 10 true (List.map e_api_Stream (List.replicate 13 (api_Stream.mk 0 0 0 0 0 0 (api_Bucket.mk 0 0) 0 ([])))), .arr a614 10 true (List.map e_api_Stream (List.replicate 13 (api_Stream.mk 0 0 0 0 0 0 (api_Bucket.mk 0 0) 0 ([]))))] := HP.at hH
          refine (EP.h 3 (st_mkP (m := 13) (zero := [.int .i64 0, .int .i64 0, .int .i64 0, .int .i64 0, .int .i64 0, .int .i64 0, .int .i64 0, .int .i64 0, .int .i64 0, .sl 1 false (List.map (eSl 1 eI64) [])]) (bytes := 96) (H := H615) (by kernel_rfl) (by decide) hH619) ?_)
          obtain ⟨r620, hr620, hj⟩ := bs hj
          refine (EP.u 0 (st_callP (by kernel_rfl) (stream_CheckAll_ok N (api_Topo.mk 0 ([]) ([])) (List.replicate 13 (api_Stream.mk 0 0 0 0 0 0 (api_Bucket.mk 0 0) 0 ([]))) r620 hr620)) ?_)
          rcases ite_some hj with ⟨hc621, hj⟩ | ⟨hc624, hj⟩
          · refine (EP.u 0 (st_bool (c := (r620 == 260)) (by kernel_rfl) hc621) ?_)
            rcases ite_some hj with ⟨hc622, hj⟩ | ⟨hc623, hj⟩
            · obtain rfl := some_inj hj
              exact (EP.u 3 (st_bool (c := (r597.2 == 260)) (by kernel_rfl) hc622) (EP.f ⟨H619, (by show _ = _; kernel_rfl), (HP.pick hH [] rfl)⟩))
            obtain rfl := some_inj hj
            exact (EP.u 3 (st_bool (c := (r597.2 == 260)) (by kernel_rfl) hc623) (EP.f ⟨H619, (by show _ = _; kernel_rfl), (HP.pick hH [] rfl)⟩))
          obtain rfl := some_inj hj
          exact (EP.u 0 (st_bool (c := (r620 == 260)) (by kernel_rfl) hc624) (EP.f ⟨H619, (by show _ = _; kernel_rfl), (HP.pick hH [] rfl)⟩))
        obtain rfl := some_inj hj
        exact (EP.u 0 (st_bool (c := (r616 == 3)) (by kernel_rfl) hc625) (EP.f ⟨H615, (by show _ = _; kernel_rfl), (HP.pick hH [] rfl)⟩))
      obtain rfl := some_inj hj
      exact (EP.u 0 (st_bool (c := (r612 == 260)) (by kernel_rfl) hc626) (EP.f ⟨[], (by show _ = _; kernel_rfl), (HP.pick hH [] rfl)⟩))
    clear hj
    rintro s hR
    obtain ⟨H627, rfl, hH⟩ := hR
    replace hH : HP H627 [] := hH
    refine tq (sq ?_)
    obtain ⟨j651, hj, h⟩ := bs h
    refine rgR (fun s => s = ⟨[(0, bv j651)], [], H627⟩) ?_ ?_
    · clear h
      obtain ⟨r629, hr629, hj⟩ := bs hj
      rcases ite_some hj with ⟨hc630, hj⟩ | ⟨hc650, hj⟩
      · refine (EP.h 1 (st_callB (by kernel_rfl) (law22_works_ok N  r629 hr629) hc630) ?_)
        obtain ⟨r631, hr631, hj⟩ := bs hj
        rcases ite_some hj with ⟨hc632, hj⟩ | ⟨hc649, hj⟩
        · refine (EP.h 3 (st_callB (by kernel_rfl) (ref16_Right_ok N (api_Topo.mk 4 ([false, false, true, true]) ([(api_Link.mk 2 0 1 0), (api_Link.mk 2 1 1 0), (api_Link.mk 0 3 2 0), (api_Link.mk 1 3 2 0)])) r631 hr631) hc632) ?_)
          rcases ite_some hj with ⟨hc633, hj⟩ | ⟨hc648, hj⟩
          · refine (EP.u 3 (st_bool (c := (r594.1 == 252)) (by kernel_rfl) hc633) ?_)
            rcases ite_some hj with ⟨hc634, hj⟩ | ⟨hc647, hj⟩
            · refine (EP.u 3 (st_bool (c := (r594.2 == 0)) (by kernel_rfl) hc634) ?_)
              rcases ite_some hj with ⟨hc635, hj⟩ | ⟨hc646, hj⟩
              · refine (EP.u 3 (st_bool (c := (r595.2 == 2)) (by kernel_rfl) hc635) ?_)
                rcases ite_some hj with ⟨hc636, hj⟩ | ⟨hc645, hj⟩
                · refine (EP.u 3 (st_bool (c := (r596.2 == 2)) (by kernel_rfl) hc636) ?_)
                  rcases ite_some hj with ⟨hc637, hj⟩ | ⟨hc644, hj⟩
                  · refine (EP.u 3 (st_bool (c := (r599.1 == 1)) (by kernel_rfl) hc637) ?_)
                    rcases ite_some hj with ⟨hc638, hj⟩ | ⟨hc643, hj⟩
                    · refine (EP.u 3 (st_bool (c := (r599.2 == 0)) (by kernel_rfl) hc638) ?_)
                      rcases ite_some hj with ⟨hc639, hj⟩ | ⟨hc642, hj⟩
                      · refine (EP.u 3 (st_bool (c := (r600.2 == 4)) (by kernel_rfl) hc639) ?_)
                        rcases ite_some hj with ⟨hc640, hj⟩ | ⟨hc641, hj⟩
                        · obtain rfl := some_inj hj
                          exact (EP.u 2 (st_bool (c := j611) (by kernel_rfl) hc640) (EP.f (by show _ = _; kernel_rfl)))
                        obtain rfl := some_inj hj
                        exact (EP.u 2 (st_bool (c := j611) (by kernel_rfl) hc641) (EP.f (by show _ = _; kernel_rfl)))
                      obtain rfl := some_inj hj
                      exact (EP.u 3 (st_bool (c := (r600.2 == 4)) (by kernel_rfl) hc642) (EP.f (by show _ = _; kernel_rfl)))
                    obtain rfl := some_inj hj
                    exact (EP.u 3 (st_bool (c := (r599.2 == 0)) (by kernel_rfl) hc643) (EP.f (by show _ = _; kernel_rfl)))
                  obtain rfl := some_inj hj
                  exact (EP.u 3 (st_bool (c := (r599.1 == 1)) (by kernel_rfl) hc644) (EP.f (by show _ = _; kernel_rfl)))
                obtain rfl := some_inj hj
                exact (EP.u 3 (st_bool (c := (r596.2 == 2)) (by kernel_rfl) hc645) (EP.f (by show _ = _; kernel_rfl)))
              obtain rfl := some_inj hj
              exact (EP.u 3 (st_bool (c := (r595.2 == 2)) (by kernel_rfl) hc646) (EP.f (by show _ = _; kernel_rfl)))
            obtain rfl := some_inj hj
            exact (EP.u 3 (st_bool (c := (r594.2 == 0)) (by kernel_rfl) hc647) (EP.f (by show _ = _; kernel_rfl)))
          obtain rfl := some_inj hj
          exact (EP.u 3 (st_bool (c := (r594.1 == 252)) (by kernel_rfl) hc648) (EP.f (by show _ = _; kernel_rfl)))
        obtain rfl := some_inj hj
        exact (EP.h 3 (st_callB (by kernel_rfl) (ref16_Right_ok N (api_Topo.mk 4 ([false, false, true, true]) ([(api_Link.mk 2 0 1 0), (api_Link.mk 2 1 1 0), (api_Link.mk 0 3 2 0), (api_Link.mk 1 3 2 0)])) r631 hr631) hc649) (EP.f (by show _ = _; kernel_rfl)))
      obtain rfl := some_inj hj
      exact (EP.h 1 (st_callB (by kernel_rfl) (law22_works_ok N  r629 hr629) hc650) (EP.f (by show _ = _; kernel_rfl)))
    clear hj
    rintro s hR
    obtain rfl := hR
    refine tq (rt ?_)
    obtain rfl := some_inj h
    exact ret_of (by kernel_rfl)
  dsimp only at h hq
  obtain ⟨rfl, hq⟩ := hq
  refine br (tr ?_)
  obtain rfl := some_inj h
  exact hq
end Go.Sh


import Derived.Test.YtjiojpconkhdmaaCM1
import Derived.Test.YtjiojpconkhdmaaCGPacketPut
namespace Go.Proofs.Ytjiojpconkhdmaa.Fs
open Go.RowKit Go.Maps Go.Proofs.YtjiojpconkhdmaaW.PrintWords Go.Proofs.YtjiojpconkhdmaaW.PrintLast Go.Proofs.YtjiojpconkhdmaaW.PrintMore
set_option linter.unusedVariables false
set_option linter.unusedSimpArgs false
set_option maxHeartbeats 4000000 in
set_option maxRecDepth 100000 in
/-- Two packets that are one by one the same. -/
theorem same_calls (k : Nat) (a0 a1 a2 a3 a4 a5 a6 a7 a8 a9 : Int) (a10 : ByteArray) (A0 : Option Addr) (c0 : Nat) (A1 : Option Addr) (c1 : Nat) (l : List S102) (w : World) (hr0 : Kd.C k102 w A0 l.length l) (hc0 : l.length ≤ c0) (hr1 : Kd.C k102 w A1 l.length l) (hc1 : l.length ≤ c1) (h : pinfoldlaw0_SameOptions.f k l l = some true) :
    Calls Try.prog 17 #[.agg #[.int .i64 a0, .int .i64 a1, .int .i64 a2, .int .i64 a3, .int .i64 a4, .int .i64 a5, .int .i64 a6, .int .i64 a7, .int .i64 a8, .int .i64 a9, .string a10, .slice A0 l.length c0], .agg #[.int .i64 a0, .int .i64 a1, .int .i64 a2, .int .i64 a3, .int .i64 a4, .int .i64 a5, .int .i64 a6, .int .i64 a7, .int .i64 a8, .int .i64 a9, .string a10, .slice A1 l.length c1]] w fun e w' => e = .returned (.bool true) ∧ Below w.heap.size w w' := by
  have H := Aside0.mk h
  have H0 := Aside0.mk hr0
  have H1 := Aside0.mk hr1
  clear h hr0 hr1
  go_enter Try.func17, Try.ntmps17
  go_wp2_with fail
  refine (pinfoldlaw0_SameOptions.calls k A0 c0 l A1 c1 l true _ (Kd.C_alloc (Kd.C_alloc H0.out _) _) hc0 (Kd.C_alloc (Kd.C_alloc H1.out _) _) hc1 H.out).mono ?_
  rintro e w1 ⟨rfl, ⟨nd, hnd⟩⟩
  have hbd := below_alloc' (below_alloc (Below.refl w.heap.size w) (.cells #[.int .i64 a0, .int .i64 a1, .int .i64 a2, .int .i64 a3, .int .i64 a4, .int .i64 a5, .int .i64 a6, .int .i64 a7, .int .i64 a8, .int .i64 a9, .string a10, .slice A0 l.length c0] 24)) (by simp) (.cells #[.int .i64 a0, .int .i64 a1, .int .i64 a2, .int .i64 a3, .int .i64 a4, .int .i64 a5, .int .i64 a6, .int .i64 a7, .int .i64 a8, .int .i64 a9, .string a10, .slice A1 l.length c1] 24)
  have hbe : Below w.heap.size w w1 := by first | (rw [hnd]; exact pw_below_drewN hbd nd) | (rw [← hnd]; exact pw_below_drewN hbd nd)
  have HB := Aside0.mk hbe
  clear hnd hbd hbe
  go_wp2_with fail
  go_ret
  exact ⟨rfl, HB.out⟩
end Go.Proofs.Ytjiojpconkhdmaa.Fs

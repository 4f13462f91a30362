import Derived.Test.YtjiojpconkhdmaaCM4
import Derived.Test.YtjiojpconkhdmaaCM1
import Derived.Test.YtjiojpconkhdmaaCGPacketPut
import Derived.Deep.QuietTactic
import Derived.BigQuiet
namespace Go.Proofs.Ytjiojpconkhdmaa.Fs
open Go.RowKit Go.Maps Go.Proofs.YtjiojpconkhdmaaW.PrintWords Go.Proofs.YtjiojpconkhdmaaW.PrintLast Go.Proofs.YtjiojpconkhdmaaW.PrintMore
set_option linter.unusedVariables false
set_option linter.unusedSimpArgs false
theorem C_one (w : World) (b : Nat) (c : Int) (d : ByteArray) (h : w.heap[b]? = some (.cells #[.int .i64 c, .string d] 102 (0, 0))) : Kd.C k102 w (some ⟨b, 0, none⟩) [(⟨c, d⟩ : S102)].length [⟨c, d⟩] := by
  obtain ⟨h0, h1⟩ := box2 h
  refine ⟨rfl, (show 1 ≤ 9223372036854775807 by decide), fun _ => ⟨_, rfl, fun j p hj => ?_⟩⟩
  cases j with
  | succ j => simp at hj
  | zero =>
    have hp : (⟨c, d⟩ : S102) = p := by simpa using hj
    subst hp
    refine ⟨[.int .i64 c, .string d], rfl, k102_mk w ⟨c, d⟩, fun i u hi => ?_⟩
    match i, hi with
    | 0, hi =>
      have : Value.int .i64 c = u := by simpa using hi
      subst this
      exact h0
    | 1, hi =>
      have : Value.string d = u := by simpa using hi
      subst this
      exact h1
    | i + 2, hi => simp at hi
def pk12 (b : Nat) : Array Value := #[.int .i64 1, .int .i64 1, .int .i64 0, .int .i64 258, .int .i64 0, .int .i64 0, .int .i64 0, .int .i64 0, .int .i64 0, .int .i64 0, .string wC, .slice (some ⟨b, 0, none⟩) 1 1]
theorem num_same (n : Int) (w : World) : Calls Try.prog 16 #[.int .i64 n] w fun e w' => e = .returned (.int .i64 n) ∧ w = w' := by
  go_enter Try.func16, Try.ntmps16
  go_wp2
  go_ret
  exact ⟨rfl, rfl⟩
theorem small_sizes (s : ByteArray) (a b : Nat) (h : s.size = 244) (hb : b ≤ 244) : (s.extract a b).size ≤ 244 := by rw [ByteArray.size_extract]; omega
theorem cell_11 {w : World} {b : Nat} {v0 v1 v2 v3 v4 v5 v6 v7 v8 v9 v10 v11 : Value} (h : w.heap[b]? = some (.cells #[v0, v1, v2, v3, v4, v5, v6, v7, v8, v9, v10, v11] 24 (0, 0))) : w.cell? ⟨b, 11, none⟩ = some v11 := by simp [World.cell?, h]
set_option maxHeartbeats 4000000 in
set_option maxRecDepth 100000 in
theorem awake_calls (w : World) : Calls Try.prog 21 #[] w fun e w' => e = .returned (.bool true) ∧ Below w.heap.size w w' := by
  have hs0 := wS_size
  go_enter Try.func21, Try.ntmps21
  go_wp2_with fail
  have p0 : ((w.alloc (.cells #[.int .i64 53, .string ⟨#[1]⟩] 102)).alloc (.cells #[.int .i64 1, .int .i64 1, .int .i64 0, .int .i64 258, .int .i64 0, .int .i64 0, .int .i64 0, .int .i64 0, .int .i64 0, .int .i64 0, .string ⟨#[97, 98, 99, 100, 101, 102]⟩, .slice (some ⟨w.heap.size, 0, none⟩) 1 1] 24)).heap[w.heap.size]? = some (.cells #[.int .i64 53, .string ⟨#[1]⟩] 102 (0, 0)) := (two_boxes w _ _).1
  have p1 : ((w.alloc (.cells #[.int .i64 53, .string ⟨#[1]⟩] 102)).alloc (.cells #[.int .i64 1, .int .i64 1, .int .i64 0, .int .i64 258, .int .i64 0, .int .i64 0, .int .i64 0, .int .i64 0, .int .i64 0, .int .i64 0, .string ⟨#[97, 98, 99, 100, 101, 102]⟩, .slice (some ⟨w.heap.size, 0, none⟩) 1 1] 24)).heap[w.heap.size + 1]? = some (.cells #[.int .i64 1, .int .i64 1, .int .i64 0, .int .i64 258, .int .i64 0, .int .i64 0, .int .i64 0, .int .i64 0, .int .i64 0, .int .i64 0, .string ⟨#[97, 98, 99, 100, 101, 102]⟩, .slice (some ⟨w.heap.size, 0, none⟩) 1 1] 24 (0, 0)) := (two_boxes w _ _).2.1
  have hz := (two_boxes w (.cells #[.int .i64 53, .string ⟨#[1]⟩] 102) (.cells #[.int .i64 1, .int .i64 1, .int .i64 0, .int .i64 258, .int .i64 0, .int .i64 0, .int .i64 0, .int .i64 0, .int .i64 0, .int .i64 0, .string ⟨#[97, 98, 99, 100, 101, 102]⟩, .slice (some ⟨w.heap.size, 0, none⟩) 1 1] 24)).2.2
  have hbA : Below w.heap.size w ((w.alloc (.cells #[.int .i64 53, .string ⟨#[1]⟩] 102)).alloc (.cells #[.int .i64 1, .int .i64 1, .int .i64 0, .int .i64 258, .int .i64 0, .int .i64 0, .int .i64 0, .int .i64 0, .int .i64 0, .int .i64 0, .string ⟨#[97, 98, 99, 100, 101, 102]⟩, .slice (some ⟨w.heap.size, 0, none⟩) 1 1] 24)) := below_alloc' (below_alloc (Below.refl _ _) _) (by simp) _
  have P0 := Aside0.mk p0
  have P1 := Aside0.mk p1
  have HBA := Aside0.mk hbA
  have HZ := Aside0.mk hz
  clear p0 p1 hbA hz
  refine (packet_Put.calls 1 1 0 258 0 0 0 0 0 0 wC (some ⟨w.heap.size, 0, none⟩) 1 wO wS 0 _ (C_one _ _ _ _ P0.out) (Nat.le_refl _) w_put).mono ?_
  rintro e w1 ⟨rfl, hb1⟩
  have Q0 := Aside0.mk (heap_below P0.out hb1)
  have Q1 := Aside0.mk (heap_below P1.out hb1)
  have HB1 := Aside0.mk (HBA.out.trans (hb1.mono HBA.out.size))
  have hz1 := hb1.size
  rw [HZ.out] at hz1
  clear hb1 P0 P1 HBA HZ
  go_wp2_with fail
  refine (packet_Get.calls wS 1 1 0 258 0 0 0 0 0 0 wC wO 0 _ w_get).mono ?_
  rintro e w2 ⟨v2, rfl, ho2, hb2⟩
  obtain ⟨A2, c2, rfl⟩ := Kd.R_slice ho2
  have O2 := Aside0.mk ho2
  have Q0' := Aside0.mk (heap_below Q0.out hb2)
  have Q1' := Aside0.mk (heap_below Q1.out hb2)
  have HB2 := Aside0.mk (HB1.out.trans (hb2.mono HB1.out.size))
  have hz2 := hb2.size
  clear ho2 hb2 Q0 Q1 HB1
  have hsa := small_sizes wS 0 44 hs0 (by decide)
  have hsb := small_sizes wS 48 108 hs0 (by decide)
  have hsc := small_sizes wS 112 240 hs0 (by decide)
  go_wp2_with fail
  go_quiet (fail)
  go_wp2_with fail
  have p2 := Aside0.mk (heap_alloc_new w2 (.cells #[.int .i64 1, .int .i64 1, .int .i64 0, .int .i64 258, .int .i64 0, .int .i64 0, .int .i64 0, .int .i64 0, .int .i64 0, .int .i64 0, .string wC, .slice A2 wO.length c2] 24))
  have q0 := Aside0.mk ((heap_alloc_old w2 (.cells #[.int .i64 1, .int .i64 1, .int .i64 0, .int .i64 258, .int .i64 0, .int .i64 0, .int .i64 0, .int .i64 0, .int .i64 0, .int .i64 0, .string wC, .slice A2 wO.length c2] 24) (Array.getElem?_eq_some_iff.1 Q0'.out).1).trans Q0'.out)
  have q1 := Aside0.mk ((heap_alloc_old w2 (.cells #[.int .i64 1, .int .i64 1, .int .i64 0, .int .i64 258, .int .i64 0, .int .i64 0, .int .i64 0, .int .i64 0, .int .i64 0, .int .i64 0, .string wC, .slice A2 wO.length c2] 24) (Array.getElem?_eq_some_iff.1 Q1'.out).1).trans Q1'.out)
  have o2 := Aside0.mk (Kd.R_drewN (Kd.R_alloc O2.out (.cells #[.int .i64 1, .int .i64 1, .int .i64 0, .int .i64 258, .int .i64 0, .int .i64 0, .int .i64 0, .int .i64 0, .int .i64 0, .int .i64 0, .string wC, .slice A2 wO.length c2] 24)) nq)
  have hbq := Aside0.mk (pw_below_drewN (below_alloc' HB2.out HB2.out.size (.cells #[.int .i64 1, .int .i64 1, .int .i64 0, .int .i64 258, .int .i64 0, .int .i64 0, .int .i64 0, .int .i64 0, .int .i64 0, .int .i64 0, .string wC, .slice A2 wO.length c2] 24)) nq)
  have hsq : w2.heap.size < ((w2.alloc (.cells #[.int .i64 1, .int .i64 1, .int .i64 0, .int .i64 258, .int .i64 0, .int .i64 0, .int .i64 0, .int .i64 0, .int .i64 0, .int .i64 0, .string wC, .slice A2 wO.length c2] 24)).drewN nq).heap.size := by show w2.heap.size < (w2.alloc (.cells #[.int .i64 1, .int .i64 1, .int .i64 0, .int .i64 258, .int .i64 0, .int .i64 0, .int .i64 0, .int .i64 0, .int .i64 0, .int .i64 0, .string wC, .slice A2 wO.length c2] 24)).heap.size; simp
  have r0 : Aside0 (((w2.alloc (.cells #[.int .i64 1, .int .i64 1, .int .i64 0, .int .i64 258, .int .i64 0, .int .i64 0, .int .i64 0, .int .i64 0, .int .i64 0, .int .i64 0, .string wC, .slice A2 wO.length c2] 24)).drewN nq).heap[w.heap.size]? = some (.cells #[.int .i64 53, .string ⟨#[1]⟩] 102 (0, 0))) := ⟨q0.out⟩
  have r1 : Aside0 (((w2.alloc (.cells #[.int .i64 1, .int .i64 1, .int .i64 0, .int .i64 258, .int .i64 0, .int .i64 0, .int .i64 0, .int .i64 0, .int .i64 0, .int .i64 0, .string wC, .slice A2 wO.length c2] 24)).drewN nq).heap[w.heap.size + 1]? = some (.cells #[.int .i64 1, .int .i64 1, .int .i64 0, .int .i64 258, .int .i64 0, .int .i64 0, .int .i64 0, .int .i64 0, .int .i64 0, .int .i64 0, .string ⟨#[97, 98, 99, 100, 101, 102]⟩, .slice (some ⟨w.heap.size, 0, none⟩) 1 1] 24 (0, 0))) := ⟨q1.out⟩
  have r2 : Aside0 (((w2.alloc (.cells #[.int .i64 1, .int .i64 1, .int .i64 0, .int .i64 258, .int .i64 0, .int .i64 0, .int .i64 0, .int .i64 0, .int .i64 0, .int .i64 0, .string wC, .slice A2 wO.length c2] 24)).drewN nq).heap[w2.heap.size]? = some (.cells #[.int .i64 1, .int .i64 1, .int .i64 0, .int .i64 258, .int .i64 0, .int .i64 0, .int .i64 0, .int .i64 0, .int .i64 0, .int .i64 0, .string wC, .slice A2 wO.length c2] 24 (0, 0))) := ⟨p2.out⟩
  clear p2 q0 q1 O2 Q0' Q1' HB2 hsa hsb hsc
  generalize (w2.alloc (.cells #[.int .i64 1, .int .i64 1, .int .i64 0, .int .i64 258, .int .i64 0, .int .i64 0, .int .i64 0, .int .i64 0, .int .i64 0, .int .i64 0, .string wC, .slice A2 wO.length c2] 24)).drewN nq = w3 at o2 hbq hsq r0 r1 r2 ⊢
  refine (packet_Get.calls wP _ _ _ _ _ _ _ _ _ _ _ wZ 0 _ w_get2).mono ?_
  rintro e w4 ⟨v3, rfl, ho3, hb4⟩
  obtain ⟨A3, c3, rfl⟩ := Kd.R_slice ho3
  have O2 := Aside0.mk (Kd.R_below o2.out hb4)
  have O3 := Aside0.mk ho3
  have R0 := Aside0.mk (heap_below r0.out hb4)
  have R1 := Aside0.mk (heap_below r1.out hb4)
  have R2 := Aside0.mk (heap_below r2.out hb4)
  have HB4 := Aside0.mk (hbq.out.trans (hb4.mono hbq.out.size))
  have hz4 := hb4.size
  clear ho3 hb4 o2 r0 r1 r2 hbq
  generalize hn0 : numK wP 0 = n0
  generalize hn1 : numK wP 1 = n1
  generalize hn3 : numK wP 3 = n3
  generalize hn4 : numK wP 4 = n4
  generalize hn5 : numK wP 5 = n5
  generalize hn6 : numK wP 6 = n6
  generalize hn7 : numK wP 7 = n7
  generalize hn8 : numK wP 8 = n8
  generalize hn9 : numK wP 9 = n9
  generalize hn10 : numK wP 10 = n10
  generalize hnc : wP.extract 28 (28 + (numK wP 2).toNat) = nc
  clear hn0 hn1 hn3 hn4 hn5 hn6 hn7 hn8 hn9 hn10 hnc
  go_wp2_with fail
  refine (packet_Get.calls (wS.extract 0 239) _ _ _ _ _ _ _ _ _ _ _ [] 700 _ w_get3).mono ?_
  rintro e w5 ⟨v5, rfl, ho5, hb5⟩
  obtain ⟨A5, c5, rfl⟩ := Kd.R_slice ho5
  have p3 := Aside0.mk (heap_below (heap_alloc_new w4 (.cells #[.int .i64 n0, .int .i64 n1, .int .i64 n3, .int .i64 n4, .int .i64 n5, .int .i64 n6, .int .i64 n7, .int .i64 n8, .int .i64 n9, .int .i64 n10, .string nc, .slice A3 wZ.length c3] 24)) hb5)
  have q0 := Aside0.mk (heap_below ((heap_alloc_old w4 (.cells #[.int .i64 n0, .int .i64 n1, .int .i64 n3, .int .i64 n4, .int .i64 n5, .int .i64 n6, .int .i64 n7, .int .i64 n8, .int .i64 n9, .int .i64 n10, .string nc, .slice A3 wZ.length c3] 24) (Array.getElem?_eq_some_iff.1 R0.out).1).trans R0.out) hb5)
  have q1 := Aside0.mk (heap_below ((heap_alloc_old w4 (.cells #[.int .i64 n0, .int .i64 n1, .int .i64 n3, .int .i64 n4, .int .i64 n5, .int .i64 n6, .int .i64 n7, .int .i64 n8, .int .i64 n9, .int .i64 n10, .string nc, .slice A3 wZ.length c3] 24) (Array.getElem?_eq_some_iff.1 R1.out).1).trans R1.out) hb5)
  have q2 := Aside0.mk (heap_below ((heap_alloc_old w4 (.cells #[.int .i64 n0, .int .i64 n1, .int .i64 n3, .int .i64 n4, .int .i64 n5, .int .i64 n6, .int .i64 n7, .int .i64 n8, .int .i64 n9, .int .i64 n10, .string nc, .slice A3 wZ.length c3] 24) (Array.getElem?_eq_some_iff.1 R2.out).1).trans R2.out) hb5)
  have o2 := Aside0.mk (Kd.R_below (Kd.R_alloc O2.out (.cells #[.int .i64 n0, .int .i64 n1, .int .i64 n3, .int .i64 n4, .int .i64 n5, .int .i64 n6, .int .i64 n7, .int .i64 n8, .int .i64 n9, .int .i64 n10, .string nc, .slice A3 wZ.length c3] 24)) hb5)
  have o3 := Aside0.mk (Kd.R_below (Kd.R_alloc O3.out (.cells #[.int .i64 n0, .int .i64 n1, .int .i64 n3, .int .i64 n4, .int .i64 n5, .int .i64 n6, .int .i64 n7, .int .i64 n8, .int .i64 n9, .int .i64 n10, .string nc, .slice A3 wZ.length c3] 24)) hb5)
  have hbw5 : Below w.heap.size w w5 := (below_alloc' HB4.out HB4.out.size _).trans (hb5.mono (by have := HB4.out.size; simp; omega))
  have HB5 := Aside0.mk hbw5
  have hz5 := hb5.size
  simp at hz5
  clear ho5 hb5 O2 O3 R0 R1 R2 HB4 hbw5
  go_wp2_with fail
  have hbw9 : ∀ o, Below w.heap.size w (w5.alloc o) := fun o => below_alloc' HB5.out HB5.out.size o
  refine (packet_Put.calls 0 0 0 0 0 0 0 0 0 0 w17 none 0 [] ⟨#[]⟩ 700 _ (Kd.C_nil _ _) (Nat.le_refl _) w_put2).mono ?_
  rintro e w6 ⟨rfl, hb6⟩
  have O2 := Aside0.mk (Kd.R_below (Kd.R_alloc o2.out _) hb6)
  have O3 := Aside0.mk (Kd.R_below (Kd.R_alloc o3.out _) hb6)
  have B0 := Aside0.mk (heap_below ((heap_alloc_old w5 _ (Array.getElem?_eq_some_iff.1 q0.out).1).trans q0.out) hb6)
  have B1 := Aside0.mk (heap_below ((heap_alloc_old w5 _ (Array.getElem?_eq_some_iff.1 q1.out).1).trans q1.out) hb6)
  have B2 := Aside0.mk (heap_below ((heap_alloc_old w5 _ (Array.getElem?_eq_some_iff.1 q2.out).1).trans q2.out) hb6)
  have B3 := Aside0.mk (heap_below ((heap_alloc_old w5 _ (Array.getElem?_eq_some_iff.1 p3.out).1).trans p3.out) hb6)
  have HB6 := Aside0.mk ((hbw9 _).trans (hb6.mono (hbw9 _).size))
  clear hb6 o2 o3 q0 q1 q2 p3 HB5 hbw9 hz1 hz2 hz4 hz5 hsq
  have hA := wS_a
  have hB : wS.extract 28 34 = ⟨#[97, 98, 99, 100, 101, 102]⟩ := wS_b
  have hC := wS_c
  obtain ⟨x0, x1, x2, x3, x4, x5, x6, x7, x8, x9, x10, x11⟩ := box12 B2.out
  obtain ⟨y0, y1, y2, y3, y4, y5, y6, y7, y8, y9, y10, y11⟩ := box12 B1.out
  go_wp2_with (first | (go_at_call 16; refine (num_same _ _).mono ?_; rintro e w' ⟨rfl, rfl⟩))
  refine (same_calls 2 1 1 0 258 0 0 0 0 0 0 wC A2 c2 (some ⟨w.heap.size, 0, none⟩) 1 wO _ (Kd.R_reads' O2.out).2.2 (Kd.R_reads' O2.out).2.1 (C_one _ _ _ _ B0.out) (Nat.le_refl _) (same_options wO (by decide) 2 (by decide))).mono ?_
  rintro e w7 ⟨rfl, hb7⟩
  have O3' := Aside0.mk (Kd.R_below O3.out hb7)
  have B0' := Aside0.mk (heap_below B0.out hb7)
  have B1' := Aside0.mk (heap_below B1.out hb7)
  have z11 := cell_11 (heap_below B3.out hb7)
  have HB7 := Aside0.mk (HB6.out.trans (hb7.mono HB6.out.size))
  clear hb7 x0 x1 x2 x3 x4 x5 x6 x7 x8 x9 x10 x11 y0 y1 y2 y3 y4 y5 y6 y7 y8 y9 y10 y11 O2 O3 B0 B1 B2 B3 HB6
  go_wp2_with (first | (go_at_call 16; refine (num_same _ _).mono ?_; rintro e w' ⟨rfl, rfl⟩))
  have hbw7 := below_alloc' HB7.out HB7.out.size (.cells #[.int .i64 12, .string ⟨#[122, 121]⟩] 102)
  refine (pinfoldlaw0_SameOptions.calls 2 A3 c3 wZ (some ⟨w7.heap.size, 0, none⟩) 1 wZ true _ (Kd.C_alloc (Kd.R_reads' O3'.out).2.2 _) (Kd.R_reads' O3'.out).2.1 (C_one _ _ _ _ (heap_alloc_new w7 _)) (Nat.le_refl _) (same_options wZ (by decide) 2 (by decide))).mono ?_
  rintro e w8 ⟨rfl, ⟨nd, hnd⟩⟩
  have hbd : Below (w7.alloc (.cells #[.int .i64 12, .string ⟨#[122, 121]⟩] 102)).heap.size (w7.alloc (.cells #[.int .i64 12, .string ⟨#[122, 121]⟩] 102)) w8 := by first | (rw [hnd]; exact pw_below_drewN (Below.refl _ _) nd) | (rw [← hnd]; exact pw_below_drewN (Below.refl _ _) nd)
  have C0 := Aside0.mk (heap_below ((heap_alloc_old w7 _ (Array.getElem?_eq_some_iff.1 B0'.out).1).trans B0'.out) hbd)
  have C1 := Aside0.mk (heap_below ((heap_alloc_old w7 _ (Array.getElem?_eq_some_iff.1 B1'.out).1).trans B1'.out) hbd)
  have HB8 := Aside0.mk (hbw7.trans (hbd.mono hbw7.size))
  clear hnd hbd hbw7 B0' B1' z11 HB7 O3'
  obtain ⟨y0, y1, y2, y3, y4, y5, y6, y7, y8, y9, y10, y11⟩ := box12 C1.out
  go_wp2_with (first | (go_at_call 16; refine (num_same _ _).mono ?_; rintro e w' ⟨rfl, rfl⟩))
  refine (packet_May.calls 1 1 0 258 0 0 0 0 0 0 wC (some ⟨w.heap.size, 0, none⟩) 1 wO true _ (C_one _ _ _ _ C0.out) (Nat.le_refl _) w_may).mono ?_
  rintro e w9 ⟨rfl, hb9⟩
  go_wp2_with fail
  go_ret
  exact ⟨rfl, HB8.out.trans (hb9.mono HB8.out.size)⟩
-- GIVEN 21 making
def pinfoldlaw7_awake.f : Option Bool := some true
theorem pinfoldlaw7_awake.calls (r : Bool) (w : World) (h : pinfoldlaw7_awake.f = some r) : Calls Try.prog 21 #[] w fun e w' => e = .returned (.bool r) ∧ Below w.heap.size w w' := by
  injection h with h
  subst h
  exact awake_calls w
end Go.Proofs.Ytjiojpconkhdmaa.Fs

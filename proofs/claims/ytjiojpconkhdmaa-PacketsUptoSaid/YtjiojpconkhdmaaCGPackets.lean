import Derived.Test.YtjiojpconkhdmaaCGPack1
import Derived.Test.YtjiojpconkhdmaaCM1
import Derived.Deep.DeepCutAuto
namespace Go.Proofs.Ytjiojpconkhdmaa.Fs
open Go.RowKit Go.Maps Go.Proofs.YtjiojpconkhdmaaW.PrintWords Go.Proofs.YtjiojpconkhdmaaW.PrintLast Go.Proofs.YtjiojpconkhdmaaW.PrintMore
set_option linter.unusedVariables false
set_option linter.unusedSimpArgs false
theorem copyPacket_eq (a0 a1 a2 a3 a4 a5 a6 a7 a8 a9 : Int) (a10 : ByteArray) (l : List S102) (hl : l.length ≤ 1048576) : pinfoldlaw0_CopyPacket.f a0 a1 a2 a3 a4 a5 a6 a7 a8 a9 a10 l = some (a0, a1, a2, a3, a4, a5, a6, a7, a8, a9, a10, l) := by
  unfold pinfoldlaw0_CopyPacket.f
  rw [Option.bind_some, if_pos (by simp only [List.length_nil]; omega)]
  rfl
theorem ne_self (b : ByteArray) : (!(b.toList == b.toList)) = false := by simp
set_option maxHeartbeats 4000000 in
set_option maxRecDepth 100000 in
theorem packets_calls (a0 a1 a2 a3 a4 a5 a6 a7 a8 a9 : Int) (a10 : ByteArray) (A : Option Addr) (c : Nat) (l : List S102) (s : ByteArray) (w : World) (hr0 : Kd.C k102 w A l.length l) (hc0 : l.length ≤ c) (hl : l.length ≤ 1048576) (hs : s.size ≤ 1048576) :
    Calls Try.prog 3 #[.agg #[.int .i64 a0, .int .i64 a1, .int .i64 a2, .int .i64 a3, .int .i64 a4, .int .i64 a5, .int .i64 a6, .int .i64 a7, .int .i64 a8, .int .i64 a9, .string a10, .slice A l.length c], .string s] w fun e w' => e = .returned (.bool true) ∧ Below w.heap.size w w' := by
  have HR := Aside0.mk hr0
  have HL := Aside0.mk hl
  have HC0 := Aside0.mk hc0
  obtain ⟨⟨pb, pe⟩, hpp⟩ : ∃ p, packet_Put.f a0 a1 a2 a3 a4 a5 a6 a7 a8 a9 a10 l = some p := by unfold packet_Put.f; split <;> exact ⟨_, rfl⟩
  have HP1 := Aside0.mk hpp
  have HP2 := Aside0.mk ((putPacket_eq a0 a1 a2 a3 a4 a5 a6 a7 a8 a9 a10 l).trans hpp)
  obtain ⟨⟨g1, g2, g3, g4, g5, g6, g7, g8, g9, g10, g11, g12, g13⟩, hgg⟩ : ∃ p, packet_Get.f s = some p := ⟨getRes s, by unfold packet_Get.f; rw [if_pos hs]⟩
  have hgg2 : pinfoldref1_GetPacket.f s = some (g1, g2, g3, g4, g5, g6, g7, g8, g9, g10, g11, g12, g13) := hgg
  have hgl : g12.length ≤ 1048576 := by
    unfold packet_Get.f at hgg
    rw [if_pos hs] at hgg
    have h := Option.some.inj hgg
    unfold getRes at h
    by_cases hpk : isPkt s = true
    · rw [if_pos hpk] at h
      simp only [Prod.mk.injEq] at h
      obtain ⟨_, _, _, _, _, _, _, _, _, _, _, h12, _⟩ := h
      rw [← h12]
      unfold isPkt at hpk
      have hp2 := (Bool.and_eq_true_iff.1 hpk).2
      unfold partsP at hp2 ⊢
      have ho := (Bool.and_eq_true_iff.1 hp2).2
      unfold optsMay at ho
      have := of_decide_eq_true (Bool.and_eq_true_iff.1 ho).2
      exact Nat.le_trans this (by decide)
    · rw [if_neg hpk] at h
      simp only [Prod.mk.injEq] at h
      obtain ⟨_, _, _, _, _, _, _, _, _, _, _, h12, _⟩ := h
      rw [← h12]
      exact Nat.zero_le _
  have HG1 := Aside0.mk hgg
  have HG2 := Aside0.mk hgg2
  have HGL := Aside0.mk hgl
  obtain ⟨sp, hsp⟩ := spoil_ok g12 (Nat.le_trans hgl (by decide))
  have HSP := Aside0.mk hsp
  obtain ⟨my, hmy⟩ : ∃ b, b = (decide (a10.size ≤ 16) && optsMay l && numsFit a0 a1 a2 a3 a4 a5 a6 a7 a8 a9) := ⟨_, rfl⟩
  have hm1 : packet_May.f a0 a1 a2 a3 a4 a5 a6 a7 a8 a9 a10 l = some my := by rw [hmy]; rfl
  have hm2 : pinfoldref1_PacketMay.f a0 a1 a2 a3 a4 a5 a6 a7 a8 a9 a10 l = some my := by rw [hmy]; exact refMay_eq a0 a1 a2 a3 a4 a5 a6 a7 a8 a9 a10 l
  have HM1 := Aside0.mk hm1
  have HM2 := Aside0.mk hm2
  clear hr0 hpp hgg hgg2 hgl hsp hmy hm1 hm2 hl hs hc0
  go_enter Try.func3, Try.ntmps3
  go_wp2_with fail
  refine (pinfoldlaw0_CopyPacket.calls a0 a1 a2 a3 a4 a5 a6 a7 a8 a9 a10 A c l a0 a1 a2 a3 a4 a5 a6 a7 a8 a9 a10 l _ (Kd.C_alloc HR.out _) HC0.out (copyPacket_eq a0 a1 a2 a3 a4 a5 a6 a7 a8 a9 a10 l HL.out)).mono ?_
  rintro e w1 ⟨v1, rfl, ho1, hb1⟩
  obtain ⟨A1, c1, rfl⟩ := Kd.R_slice ho1
  have P0 := Aside0.mk (heap_below (heap_alloc_new w (.cells #[.int .i64 a0, .int .i64 a1, .int .i64 a2, .int .i64 a3, .int .i64 a4, .int .i64 a5, .int .i64 a6, .int .i64 a7, .int .i64 a8, .int .i64 a9, .string a10, .slice A l.length c] 24)) hb1)
  have hbw : Below w.heap.size w w1 := (below_alloc (Below.refl _ _) _).trans (hb1.mono (by simp))
  have hz1 : w.heap.size < w1.heap.size := (Array.getElem?_eq_some_iff.1 P0.out).1
  have HB1 := Aside0.mk hbw
  have O1 := Aside0.mk ho1
  clear ho1 hb1 hbw
  go_wp2_with fail
  have p1 := Aside0.mk (heap_alloc_new w1 (.cells #[.int .i64 a0, .int .i64 a1, .int .i64 a2, .int .i64 a3, .int .i64 a4, .int .i64 a5, .int .i64 a6, .int .i64 a7, .int .i64 a8, .int .i64 a9, .string a10, .slice A1 l.length c1] 24))
  have p0 := Aside0.mk ((heap_alloc_old w1 (.cells #[.int .i64 a0, .int .i64 a1, .int .i64 a2, .int .i64 a3, .int .i64 a4, .int .i64 a5, .int .i64 a6, .int .i64 a7, .int .i64 a8, .int .i64 a9, .string a10, .slice A1 l.length c1] 24) hz1).trans P0.out)
  have o1 := Aside0.mk (Kd.R_alloc O1.out (.cells #[.int .i64 a0, .int .i64 a1, .int .i64 a2, .int .i64 a3, .int .i64 a4, .int .i64 a5, .int .i64 a6, .int .i64 a7, .int .i64 a8, .int .i64 a9, .string a10, .slice A1 l.length c1] 24))
  have hb2 := Aside0.mk (below_alloc' HB1.out HB1.out.size (.cells #[.int .i64 a0, .int .i64 a1, .int .i64 a2, .int .i64 a3, .int .i64 a4, .int .i64 a5, .int .i64 a6, .int .i64 a7, .int .i64 a8, .int .i64 a9, .string a10, .slice A1 l.length c1] 24))
  refine (packet_Put.calls a0 a1 a2 a3 a4 a5 a6 a7 a8 a9 a10 A1 c1 l pb pe _ (Kd.R_reads' o1.out).2.2 (Kd.R_reads' o1.out).2.1 HP1.out).mono ?_
  rintro e w2 ⟨rfl, hq2⟩
  have P0' := Aside0.mk (heap_below p0.out hq2)
  have P1' := Aside0.mk (heap_below p1.out hq2)
  have O1' := Aside0.mk (Kd.R_below o1.out hq2)
  have HB2 := Aside0.mk (hb2.out.trans (hq2.mono hb2.out.size))
  have hz2 : w1.heap.size < w2.heap.size := (Array.getElem?_eq_some_iff.1 P1'.out).1
  clear hq2 p1 p0 o1 hb2 P0 O1 HB1
  obtain ⟨d0, d1, d2, d3, d4, d5, d6, d7, d8, d9, d10, d11⟩ := box12 P0'.out
  go_wp2_with fail
  refine (pinfoldref1_PutPacket.calls 6 a0 a1 a2 a3 a4 a5 a6 a7 a8 a9 a10 A c l pb pe _ (Kd.C_below HR.out HB2.out) HC0.out HP2.out).mono ?_
  rintro e w3 ⟨rfl, hq3⟩
  have P0 := Aside0.mk (heap_below P0'.out hq3)
  have P1 := Aside0.mk (heap_below P1'.out hq3)
  have O1 := Aside0.mk (Kd.R_below O1'.out hq3)
  have HB3 := Aside0.mk (HB2.out.trans (hq3.mono HB2.out.size))
  have hz3 : w2.heap.size ≤ w3.heap.size := hq3.size
  clear hq3 P0' P1' O1' HB2 d0 d1 d2 d3 d4 d5 d6 d7 d8 d9 d10 d11
  go_wp2_with fail
  refine (packet_Get.calls s _ _ _ _ _ _ _ _ _ _ _ g12 _ _ HG1.out).mono ?_
  rintro e w4 ⟨v4, rfl, ho4, hq4⟩
  obtain ⟨A4, c4, rfl⟩ := Kd.R_slice ho4
  have O4 := Aside0.mk ho4
  have HB4 := Aside0.mk hq4
  have hz4 := hq4.size
  clear ho4 hq4
  have K0 := Aside0.mk P0.out
  have K1 := Aside0.mk P1.out
  have KO := Aside0.mk O1.out
  go_wp2_with fail
  refine (pinfoldref1_GetPacket.calls s _ _ _ _ _ _ _ _ _ _ _ g12 _ _ HG2.out).mono ?_
  rintro e w5 ⟨v5, rfl, ho5, hq5⟩
  obtain ⟨A5, c5, rfl⟩ := Kd.R_slice ho5
  have hz5 := hq5.size
  simp at hz5
  have hb45 : Below w4.heap.size w4 w5 := (below_alloc (Below.refl _ _) _).trans (hq5.mono (by simp))
  have q0 := Aside0.mk (heap_below (heap_below P0.out HB4.out) hb45)
  have q1 := Aside0.mk (heap_below (heap_below P1.out HB4.out) hb45)
  have q4 := Aside0.mk (heap_below (heap_alloc_new w4 (.cells #[.int .i64 g1, .int .i64 g2, .int .i64 g3, .int .i64 g4, .int .i64 g5, .int .i64 g6, .int .i64 g7, .int .i64 g8, .int .i64 g9, .int .i64 g10, .string g11, .slice A4 g12.length c4] 24)) hq5)
  have o4 := Aside0.mk (Kd.R_below O4.out hb45)
  have hb35 := HB4.out.trans (hb45.mono HB4.out.size)
  have Q0 := Aside0.mk ((heap_alloc_old w5 (.cells #[.int .i64 g1, .int .i64 g2, .int .i64 g3, .int .i64 g4, .int .i64 g5, .int .i64 g6, .int .i64 g7, .int .i64 g8, .int .i64 g9, .int .i64 g10, .string g11, .slice A5 g12.length c5] 24) (Array.getElem?_eq_some_iff.1 q0.out).1).trans q0.out)
  have Q1 := Aside0.mk ((heap_alloc_old w5 (.cells #[.int .i64 g1, .int .i64 g2, .int .i64 g3, .int .i64 g4, .int .i64 g5, .int .i64 g6, .int .i64 g7, .int .i64 g8, .int .i64 g9, .int .i64 g10, .string g11, .slice A5 g12.length c5] 24) (Array.getElem?_eq_some_iff.1 q1.out).1).trans q1.out)
  have Q4 := Aside0.mk ((heap_alloc_old w5 (.cells #[.int .i64 g1, .int .i64 g2, .int .i64 g3, .int .i64 g4, .int .i64 g5, .int .i64 g6, .int .i64 g7, .int .i64 g8, .int .i64 g9, .int .i64 g10, .string g11, .slice A5 g12.length c5] 24) (Array.getElem?_eq_some_iff.1 q4.out).1).trans q4.out)
  have Q5 := Aside0.mk (heap_alloc_new w5 (.cells #[.int .i64 g1, .int .i64 g2, .int .i64 g3, .int .i64 g4, .int .i64 g5, .int .i64 g6, .int .i64 g7, .int .i64 g8, .int .i64 g9, .int .i64 g10, .string g11, .slice A5 g12.length c5] 24))
  have R1 := Aside0.mk (Kd.R_alloc (Kd.R_below O1.out hb35) (.cells #[.int .i64 g1, .int .i64 g2, .int .i64 g3, .int .i64 g4, .int .i64 g5, .int .i64 g6, .int .i64 g7, .int .i64 g8, .int .i64 g9, .int .i64 g10, .string g11, .slice A5 g12.length c5] 24))
  have R4 := Aside0.mk (Kd.R_alloc o4.out (.cells #[.int .i64 g1, .int .i64 g2, .int .i64 g3, .int .i64 g4, .int .i64 g5, .int .i64 g6, .int .i64 g7, .int .i64 g8, .int .i64 g9, .int .i64 g10, .string g11, .slice A5 g12.length c5] 24))
  have R5 := Aside0.mk (Kd.R_alloc ho5 (.cells #[.int .i64 g1, .int .i64 g2, .int .i64 g3, .int .i64 g4, .int .i64 g5, .int .i64 g6, .int .i64 g7, .int .i64 g8, .int .i64 g9, .int .i64 g10, .string g11, .slice A5 g12.length c5] 24))
  have HB6 := Aside0.mk (below_alloc' hb35 hb35.size (.cells #[.int .i64 g1, .int .i64 g2, .int .i64 g3, .int .i64 g4, .int .i64 g5, .int .i64 g6, .int .i64 g7, .int .i64 g8, .int .i64 g9, .int .i64 g10, .string g11, .slice A5 g12.length c5] 24))
  clear ho5 hq5 hb45 q0 q1 q4 o4 hb35 P0 P1 O1 O4 HB4
  go_upto_region 6 with fail
  generalize w5.alloc (.cells #[.int .i64 g1, .int .i64 g2, .int .i64 g3, .int .i64 g4, .int .i64 g5, .int .i64 g6, .int .i64 g7, .int .i64 g8, .int .i64 g9, .int .i64 g10, .string g11, .slice A5 g12.length c5] 24) = w6 at Q0 Q1 Q4 Q5 R1 R4 R5 HB6 ⊢
  have hne := ne_self pb
  go_cut [63] (fun v63 wx => v63 = .bool false ∧ Aside0 (Below w6.heap.size w6 wx))
  case first =>
    obtain ⟨x0, x1, x2, x3, x4, x5, x6, x7, x8, x9, x10, x11⟩ := box12 Q4.out
    obtain ⟨y0, y1, y2, y3, y4, y5, y6, y7, y8, y9, y10, y11⟩ := box12 Q5.out
    go_region_with (first | (go_at_call 16; refine (num_same _ _).mono ?_; rintro e w' ⟨rfl, rfl⟩) | (go_at_call 17; refine (same_calls (g12.length + 1) g1 g2 g3 g4 g5 g6 g7 g8 g9 g10 g11 A4 c4 A5 c5 g12 _ (Kd.R_reads' (Kd.R_drew R4.out)).2.2 (Kd.R_reads' R4.out).2.1 (Kd.R_reads' (Kd.R_drew R5.out)).2.2 (Kd.R_reads' R5.out).2.1 (same_options g12 (Nat.le_trans HGL.out (by decide)) _ (Nat.le_refl _))).mono ?_; rintro e w7 ⟨rfl, hb7⟩; have HB7 := Aside0.mk ((below_drew (Below.refl w6.heap.size w6)).trans hb7); clear hb7; obtain ⟨z0, z1, z2, z3, z4, z5, z6, z7, z8, z9, z10, z11⟩ := box12 (heap_below Q1.out HB7.out); obtain ⟨u0, u1, u2, u3, u4, u5, u6, u7, u8, u9, u10, u11⟩ := box12 (heap_below Q0.out HB7.out)) | (go_at_call 18; refine (packet_May.calls a0 a1 a2 a3 a4 a5 a6 a7 a8 a9 a10 A1 c1 l my _ (Kd.R_reads' (Kd.R_below R1.out HB7.out)).2.2 (Kd.R_reads' R1.out).2.1 HM1.out).mono ?_; rintro e w8 ⟨rfl, hb8⟩; have HB8 := Aside0.mk (HB7.out.trans (hb8.mono HB7.out.size)); clear hb8; clear u0 u1 u2 u3 u4 u5 u6 u7 u8 u9 u10 u11; obtain ⟨u0, u1, u2, u3, u4, u5, u6, u7, u8, u9, u10, u11⟩ := box12 (heap_below Q0.out HB8.out)) | (go_at_call 19; refine (pinfoldref1_PacketMay.calls a0 a1 a2 a3 a4 a5 a6 a7 a8 a9 a10 A c l my _ (Kd.C_below (Kd.C_below HR.out (HB3.out.trans (HB6.out.mono HB3.out.size))) HB8.out) HC0.out HM2.out).mono ?_; rintro e w9 ⟨rfl, hb9⟩))
    all_goals go_wp2_with fail
    all_goals go_meet
    all_goals exact ⟨by simp, ⟨HB8.out.trans (hb9.mono HB8.out.size)⟩⟩
  case rest =>
    obtain ⟨rfl, hbx⟩ := hcut
    have j11 := cell_11 (heap_below Q4.out hbx.out)
    have hb3c : Below w3.heap.size w3 wc := HB6.out.trans (hbx.out.mono HB6.out.size)
    have HB3C := Aside0.mk hb3c
    have R4c := Aside0.mk (Kd.R_below R4.out hbx.out)
    clear hb3c hbx
    go_wp2_with fail
    refine (pinfoldlaw0_SpoilOptions.calls (g12.length + 1) (fun _ => True) _ g12 sp w3 wc HB3C.out R4c.out HSP.out).mono ?_
    rintro e wz ⟨rfl, hrz, hbz, -⟩
    have HBZ := Aside0.mk hbz
    clear hrz hbz j11
    obtain ⟨x0, x1, x2, x3, x4, x5, x6, x7, x8, x9, x10, x11⟩ := box12 (heap_below K1.out HBZ.out)
    obtain ⟨y0, y1, y2, y3, y4, y5, y6, y7, y8, y9, y10, y11⟩ := box12 (heap_below K0.out HBZ.out)
    go_wp2_with fail
    refine (same_calls (l.length + 1) a0 a1 a2 a3 a4 a5 a6 a7 a8 a9 a10 A1 c1 A c l _ (Kd.R_reads' (Kd.R_below KO.out HBZ.out)).2.2 (Kd.R_reads' KO.out).2.1 (Kd.C_below HR.out (HB3.out.trans (HBZ.out.mono HB3.out.size))) HC0.out (same_options l (Nat.le_trans HL.out (by decide)) _ (Nat.le_refl _))).mono ?_
    rintro e wy ⟨rfl, hby⟩
    have HWY := Aside0.mk (HBZ.out.trans (hby.mono HBZ.out.size))
    clear hby x0 x1 x2 x3 x4 x5 x6 x7 x8 x9 x10 x11 y0 y1 y2 y3 y4 y5 y6 y7 y8 y9 y10 y11
    go_wp2_with fail
    refine (awake_calls _).mono ?_
    rintro e wv ⟨rfl, hbv⟩
    go_wp2_with fail
    go_ret
    exact ⟨rfl, HB3.out.trans ((HWY.out.trans (hbv.mono HWY.out.size)).mono HB3.out.size)⟩
end Go.Proofs.Ytjiojpconkhdmaa.Fs

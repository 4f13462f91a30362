import Derived.Test.YtjiojpconkhdmaaCGRGet3
namespace Go.Proofs.Ytjiojpconkhdmaa.Fs
open Go.RowKit Go.Maps Go.Proofs.YtjiojpconkhdmaaW.PrintWords Go.Proofs.YtjiojpconkhdmaaW.PrintLast Go.Proofs.YtjiojpconkhdmaaW.PrintMore
set_option linter.unusedVariables false
set_option linter.unusedSimpArgs false
abbrev PkRes := Int × Int × Int × Int × Int × Int × Int × Int × Int × Int × ByteArray × (List S102) × Int
/-- What both say of some bytes. -/
def getRes (s : ByteArray) : PkRes :=
  if isPkt s = true then (numK s 0, numK s 1, numK s 3, numK s 4, numK s 5, numK s 6, numK s 7, numK s 8, numK s 9, numK s 10, s.extract 28 (28 + (numK s 2).toNat), (partsP s.data.toList).1, 0)
  else (0, 0, 0, 0, 0, 0, 0, 0, 0, 0, ⟨#[]⟩, [], 700)
-- GIVEN 14 making
def packet_Get.f (a0 : ByteArray) : Option (Int × Int × Int × Int × Int × Int × Int × Int × Int × Int × ByteArray × (List S102) × Int) := if a0.size ≤ 1048576 then some (getRes a0) else none
-- GIVEN 15 making
def pinfoldref1_GetPacket.f (a0 : ByteArray) : Option (Int × Int × Int × Int × Int × Int × Int × Int × Int × Int × ByteArray × (List S102) × Int) := if a0.size ≤ 1048576 then some (getRes a0) else none
theorem getRes_form (s : ByteArray) (r1 r2 r3 r4 r5 r6 r7 r8 r9 r10 : Int) (r11 : ByteArray) (r12 : List S102) (r13 : Int) (h : getRes s = (r1, r2, r3, r4, r5, r6, r7, r8, r9, r10, r11, r12, r13)) (v : Value) :
    Value.tuple #[if isPkt s = true then pkOf s v else zeroPk v, .int .i64 (if isPkt s = true then 0 else 700)] = .tuple #[.agg #[.int .i64 r1, .int .i64 r2, .int .i64 r3, .int .i64 r4, .int .i64 r5, .int .i64 r6, .int .i64 r7, .int .i64 r8, .int .i64 r9, .int .i64 r10, .string r11, v], .int .i64 r13] ∧ (if isPkt s = true then (partsP s.data.toList).1 else []) = r12 := by
  unfold getRes at h
  by_cases hp : isPkt s = true
  · rw [if_pos hp] at h
    simp only [Prod.mk.injEq] at h
    obtain ⟨rfl, rfl, rfl, rfl, rfl, rfl, rfl, rfl, rfl, rfl, rfl, rfl, rfl⟩ := h
    simp only [hp, if_true]
    exact ⟨rfl, trivial⟩
  · rw [if_neg hp] at h
    simp only [Prod.mk.injEq] at h
    obtain ⟨rfl, rfl, rfl, rfl, rfl, rfl, rfl, rfl, rfl, rfl, rfl, rfl, rfl⟩ := h
    simp only [hp]
    exact ⟨rfl, rfl⟩
theorem packet_Get.calls (a0 : ByteArray) (r1 : Int) (r2 : Int) (r3 : Int) (r4 : Int) (r5 : Int) (r6 : Int) (r7 : Int) (r8 : Int) (r9 : Int) (r10 : Int) (r11 : ByteArray) (r12 : List S102) (r13 : Int) (w : World) (h : packet_Get.f a0 = some (r1, r2, r3, r4, r5, r6, r7, r8, r9, r10, r11, r12, r13)) :
    Calls Try.prog 14 #[.string a0] w fun e w' => ∃ v11_ : Value, e = .returned (.tuple #[.agg #[.int .i64 r1, .int .i64 r2, .int .i64 r3, .int .i64 r4, .int .i64 r5, .int .i64 r6, .int .i64 r7, .int .i64 r8, .int .i64 r9, .int .i64 r10, .string r11, v11_], .int .i64 r13]) ∧ Kd.R k102 102 w' w.heap.size (fun _ => True) v11_ r12 ∧ Below w.heap.size w w' := by
  unfold packet_Get.f at h
  split at h
  · rename_i hs
    have hg := Option.some.inj h
    refine (packet_Get_calls a0 (Nat.le_trans hs (by decide)) w).mono ?_
    rintro e w' ⟨⟨v, rfl, hr⟩, hb⟩
    obtain ⟨e1, e2⟩ := getRes_form a0 _ _ _ _ _ _ _ _ _ _ _ _ _ hg v
    rw [e1]
    rw [e2] at hr
    exact ⟨v, rfl, hr, hb⟩
  · cases h
theorem pinfoldref1_GetPacket.calls (a0 : ByteArray) (r1 : Int) (r2 : Int) (r3 : Int) (r4 : Int) (r5 : Int) (r6 : Int) (r7 : Int) (r8 : Int) (r9 : Int) (r10 : Int) (r11 : ByteArray) (r12 : List S102) (r13 : Int) (w : World) (h : pinfoldref1_GetPacket.f a0 = some (r1, r2, r3, r4, r5, r6, r7, r8, r9, r10, r11, r12, r13)) :
    Calls Try.prog 15 #[.string a0] w fun e w' => ∃ v11_ : Value, e = .returned (.tuple #[.agg #[.int .i64 r1, .int .i64 r2, .int .i64 r3, .int .i64 r4, .int .i64 r5, .int .i64 r6, .int .i64 r7, .int .i64 r8, .int .i64 r9, .int .i64 r10, .string r11, v11_], .int .i64 r13]) ∧ Kd.R k102 102 w' w.heap.size (fun _ => True) v11_ r12 ∧ Below w.heap.size w w' := by
  unfold pinfoldref1_GetPacket.f at h
  split at h
  · rename_i hs
    have hg := Option.some.inj h
    refine (refGet_calls a0 hs w).mono ?_
    rintro e w' ⟨⟨v, rfl, hr⟩, hb⟩
    obtain ⟨e1, e2⟩ := getRes_form a0 _ _ _ _ _ _ _ _ _ _ _ _ _ hg v
    rw [e1]
    rw [e2] at hr
    exact ⟨v, rfl, hr, hb⟩
  · cases h
end Go.Proofs.Ytjiojpconkhdmaa.Fs

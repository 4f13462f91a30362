import Derived.Test.YtjiojpconkhdmaaCM1
import Derived.Test.YtjiojpconkhdmaaCF19
import Derived.Test.YtjiojpconkhdmaaCGRefNum
namespace Go.Proofs.Ytjiojpconkhdmaa.Fs
open Go.RowKit Go.Proofs.YtjiojpconkhdmaaW.PrintWords Go.Proofs.YtjiojpconkhdmaaW.PrintLast Go.Proofs.YtjiojpconkhdmaaW.PrintMore
attribute [local go_sem] max2_int min2_int max_two min_two max_three min_three max_four min_four   -- for this text's walks alone
set_option linter.unusedVariables false
set_option linter.unusedSimpArgs false

/-! ### pinfoldref1_PutPacket: function 13 -/
def pinfoldref1_PutPacket.f (k : Nat) (a0_0 : Int) (a0_1 : Int) (a0_2 : Int) (a0_3 : Int) (a0_4 : Int) (a0_5 : Int) (a0_6 : Int) (a0_7 : Int) (a0_8 : Int) (a0_9 : Int) (a0_10 : ByteArray) (l0_11 : List (S102)) : Option (ByteArray × Int) := (pinfoldref1_PacketMay.f a0_0 a0_1 a0_2 a0_3 a0_4 a0_5 a0_6 a0_7 a0_8 a0_9 a0_10 l0_11).bind fun t132 => (if t132 = true then ((pinfoldref1_PutOpts.f l0_11).bind fun bt133 => (if bt133.2 = 0 then ((pinfoldref1_Num.f k a0_0 1).bind fun t135 => ((pinfoldref1_Num.f k a0_1 1).bind fun t136 => (if t135.size + t136.size ≤ 9223372036854775807 then ((pinfoldref1_Num.f k (a0_10.size : Int) 1).bind fun t137 => (if (t135 ++ t136).size + t137.size ≤ 9223372036854775807 then ((pinfoldref1_Num.f k a0_2 1).bind fun t138 => (if ((t135 ++ t136) ++ t137).size + t138.size ≤ 9223372036854775807 then ((pinfoldref1_Num.f k a0_3 4).bind fun t139 => (if (((t135 ++ t136) ++ t137) ++ t138).size + t139.size ≤ 9223372036854775807 then ((pinfoldref1_Num.f k a0_4 2).bind fun t140 => (if ((((t135 ++ t136) ++ t137) ++ t138) ++ t139).size + t140.size ≤ 9223372036854775807 then ((pinfoldref1_Num.f k a0_5 2).bind fun t141 => (if (((((t135 ++ t136) ++ t137) ++ t138) ++ t139) ++ t140).size + t141.size ≤ 9223372036854775807 then ((pinfoldref1_Num.f k a0_6 4).bind fun t142 => (if ((((((t135 ++ t136) ++ t137) ++ t138) ++ t139) ++ t140) ++ t141).size + t142.size ≤ 9223372036854775807 then ((pinfoldref1_Num.f k a0_7 4).bind fun t143 => (if (((((((t135 ++ t136) ++ t137) ++ t138) ++ t139) ++ t140) ++ t141) ++ t142).size + t143.size ≤ 9223372036854775807 then ((pinfoldref1_Num.f k a0_8 4).bind fun t144 => (if ((((((((t135 ++ t136) ++ t137) ++ t138) ++ t139) ++ t140) ++ t141) ++ t142) ++ t143).size + t144.size ≤ 9223372036854775807 then ((pinfoldref1_Num.f k a0_9 4).bind fun t145 => (if (((((((((t135 ++ t136) ++ t137) ++ t138) ++ t139) ++ t140) ++ t141) ++ t142) ++ t143) ++ t144).size + t145.size ≤ 9223372036854775807 then (if ((((((((((t135 ++ t136) ++ t137) ++ t138) ++ t139) ++ t140) ++ t141) ++ t142) ++ t143) ++ t144) ++ t145).size + a0_10.size ≤ 9223372036854775807 then (if 0 ≤ (wrap64 (236 - ((((((((((((t135 ++ t136) ++ t137) ++ t138) ++ t139) ++ t140) ++ t141) ++ t142) ++ t143) ++ t144) ++ t145) ++ a0_10).size : Int))) then (if (wrap64 (236 - ((((((((((((t135 ++ t136) ++ t137) ++ t138) ++ t139) ++ t140) ++ t141) ++ t142) ++ t143) ++ t144) ++ t145) ++ a0_10).size : Int)) : Int).toNat ≤ 281474976710656 then ((some (List.replicate (wrap64 (236 - ((((((((((((t135 ++ t136) ++ t137) ++ t138) ++ t139) ++ t140) ++ t141) ++ t142) ++ t143) ++ t144) ++ t145) ++ a0_10).size : Int)) : Int).toNat 0 : List Int)).bind fun y146 => (if (((((((((((t135 ++ t136) ++ t137) ++ t138) ++ t139) ++ t140) ++ t141) ++ t142) ++ t143) ++ t144) ++ t145) ++ a0_10).size + (strOfNums y146).size ≤ 9223372036854775807 then ((pinfoldref1_Num.f k 1669485411 4).bind fun t149 => (if ((((((((((((t135 ++ t136) ++ t137) ++ t138) ++ t139) ++ t140) ++ t141) ++ t142) ++ t143) ++ t144) ++ t145) ++ a0_10) ++ (strOfNums y146)).size + t149.size ≤ 9223372036854775807 then (if (((((((((((((t135 ++ t136) ++ t137) ++ t138) ++ t139) ++ t140) ++ t141) ++ t142) ++ t143) ++ t144) ++ t145) ++ a0_10) ++ (strOfNums y146)) ++ t149).size + bt133.1.size ≤ 9223372036854775807 then (some ((((((((((((((t135 ++ t136) ++ t137) ++ t138) ++ t139) ++ t140) ++ t141) ++ t142) ++ t143) ++ t144) ++ t145) ++ a0_10) ++ (strOfNums y146)) ++ t149) ++ bt133.1, 0)) else (none)) else (none))) else (none))) else (none)) else (none)) else (none)) else (none))) else (none))) else (none))) else (none))) else (none))) else (none))) else (none))) else (none))) else (none))) else (none)))) else (some ((⟨#[]⟩ : ByteArray), 700)))) else (some ((⟨#[]⟩ : ByteArray), 700)))
theorem pinfoldref1_PutPacket.mono : ∀ a0 a1 a2 a3 a4 a5 a6 a7 a8 a9 a10 a11 k, LeO (pinfoldref1_PutPacket.f k a0 a1 a2 a3 a4 a5 a6 a7 a8 a9 a10 a11) (pinfoldref1_PutPacket.f (k + 1) a0 a1 a2 a3 a4 a5 a6 a7 a8 a9 a10 a11) := by
  intro a0 a1 a2 a3 a4 a5 a6 a7 a8 a9 a10 a11 k
  unfold pinfoldref1_PutPacket.f
  repeat' first
      | (with_reducible exact pinfoldref1_Num.mono _ _ _)
      | (with_reducible exact LeO.refl _)
      | (with_reducible exact LeO.none _)
      | (with_reducible refine LeO.ite ?_ ?_)
      | (with_reducible refine LeO.bind ?_ (fun _ => ?_))
      | exact pinfoldref1_Num.mono _ _ _
      | exact LeO.none _
      | refine LeO.ite ?_ ?_
      | refine LeO.bind ?_ (fun _ => ?_)
def pinfoldref1_PutPacket.T6 : Bool × List (List Nat × List Nat) := (true, [([], []), ([0], [0]), ([1], [1]), ([], []), ([3], [3]), ([4, 2], [4]), ([2, 5], [2, 5]), ([], []), ([7], [7]), ([8], [8]), ([9, 5], [9]), ([6, 10], [6, 10]), ([], []), ([12], [12]), ([13, 10], [13]), ([11, 14], [11, 14]), ([], []), ([16], [16]), ([17, 14], [17]), ([15, 18], [15, 18]), ([], []), ([20], [20]), ([21, 18], [21]), ([19, 22], [19, 22]), ([], []), ([24], [24]), ([25, 22], [25]), ([23, 26], [23, 26]), ([], []), ([28], [28]), ([29, 26], [29]), ([27, 30], [27, 30]), ([], []), ([32], [32]), ([33, 30], [33]), ([31, 34], [31, 34]), ([], []), ([36], [36]), ([37, 34], [37]), ([35, 38], [35, 38]), ([], []), ([40], [40]), ([41, 38], [41]), ([39, 42], [39, 42]), ([], []), ([44], [44]), ([43, 45], [43, 45]), ([46, 42, 0, 1, 2, 3, 4, 5, 6, 7, 8, 9, 10, 11, 12, 13, 14, 15, 16, 17, 18, 19, 20, 21, 22, 23, 24, 25, 26, 27, 28, 29, 30, 31, 32, 33, 34, 35, 36, 37, 38, 39, 40, 41, 42, 43, 44, 45, 46], [46])])
def pinfoldref1_PutPacket.B6 : List Nat := [0, 1, 3, 0, 8, 31, 63, 0, 128, 384, 959, 2047, 0, 4096, 14271, 32767, 0, 65536, 227263, 524287, 0, 1048576, 3635135, 8388607, 0, 16777216, 58161087, 134217727, 0, 268435456, 930576319, 2147483647, 0, 4294967296, 14889220031, 34359738367, 0, 68719476736, 238227519423, 549755813887, 0, 1099511627776, 3811640309695, 8796093022207, 0, 17592186044416, 70368744177663, 140737488355327]
theorem pinfoldref1_PutPacket.tab6 : rtab .any (opsOf Try.f13 6) = pinfoldref1_PutPacket.T6 := by kernel_rfl
theorem pinfoldref1_PutPacket.bits6 : waitsOk pinfoldref1_PutPacket.T6.2 pinfoldref1_PutPacket.B6 = true := by kernel_rfl
def pinfoldref1_PutPacket.T7 : Bool × List (List Nat × List Nat) := (true, [([], []), ([], []), ([1], [1]), ([2], [2]), ([3, 3], [3]), ([4], [4]), ([0, 5], [0, 5]), ([], []), ([6, 7], [6, 7]), ([], []), ([8, 9], [8, 9]), ([10, 7, 0, 1, 2, 3, 4, 5, 6, 7, 8, 9, 10], [10]), ([11, 0, 1, 2, 3, 4, 5, 6, 7, 8, 9, 10, 11], [])])
def pinfoldref1_PutPacket.B7 : List Nat := [0, 0, 2, 6, 14, 30, 63, 0, 255, 0, 1023, 2047, 4095]
theorem pinfoldref1_PutPacket.tab7 : rtab .any (opsOf Try.f13 7) = pinfoldref1_PutPacket.T7 := by kernel_rfl
theorem pinfoldref1_PutPacket.bits7 : waitsOk pinfoldref1_PutPacket.T7.2 pinfoldref1_PutPacket.B7 = true := by kernel_rfl
set_option maxHeartbeats 8000000 in
set_option maxRecDepth 100000 in
theorem pinfoldref1_PutPacket.calls (k : Nat) (a0_0 : Int) (a0_1 : Int) (a0_2 : Int) (a0_3 : Int) (a0_4 : Int) (a0_5 : Int) (a0_6 : Int) (a0_7 : Int) (a0_8 : Int) (a0_9 : Int) (a0_10 : ByteArray) (A0_11 : Option Addr) (c0_11 : Nat) (l0_11 : List (S102)) (r1 : ByteArray) (r2 : Int) (w : World) (hr0_11 : Kd.C k102 w A0_11 l0_11.length l0_11) (hc0_11 : l0_11.length ≤ c0_11) (h : pinfoldref1_PutPacket.f k a0_0 a0_1 a0_2 a0_3 a0_4 a0_5 a0_6 a0_7 a0_8 a0_9 a0_10 l0_11 = some (r1, r2)) :
    Calls Try.prog 13 #[.agg #[.int .i64 a0_0, .int .i64 a0_1, .int .i64 a0_2, .int .i64 a0_3, .int .i64 a0_4, .int .i64 a0_5, .int .i64 a0_6, .int .i64 a0_7, .int .i64 a0_8, .int .i64 a0_9, .string a0_10, .slice A0_11 l0_11.length c0_11]] w fun e w' => e = .returned (.tuple #[.string r1, .int .i64 r2]) ∧ Below w.heap.size w w' := by
  have hu24 := Try.underlying24
  have HR0_11 := Aside0.mk hr0_11
  have HC0_11 := Aside0.mk hc0_11
  clear hr0_11 hc0_11
  have HB := Aside0.mk (Below.refl w.heap.size w)
  have H : ((pinfoldref1_PacketMay.f a0_0 a0_1 a0_2 a0_3 a0_4 a0_5 a0_6 a0_7 a0_8 a0_9 a0_10 l0_11).bind fun t132 => (if t132 = true then ((pinfoldref1_PutOpts.f l0_11).bind fun bt133 => (if bt133.2 = 0 then ((pinfoldref1_Num.f k a0_0 1).bind fun t135 => ((pinfoldref1_Num.f k a0_1 1).bind fun t136 => (if t135.size + t136.size ≤ 9223372036854775807 then ((pinfoldref1_Num.f k (a0_10.size : Int) 1).bind fun t137 => (if (t135 ++ t136).size + t137.size ≤ 9223372036854775807 then ((pinfoldref1_Num.f k a0_2 1).bind fun t138 => (if ((t135 ++ t136) ++ t137).size + t138.size ≤ 9223372036854775807 then ((pinfoldref1_Num.f k a0_3 4).bind fun t139 => (if (((t135 ++ t136) ++ t137) ++ t138).size + t139.size ≤ 9223372036854775807 then ((pinfoldref1_Num.f k a0_4 2).bind fun t140 => (if ((((t135 ++ t136) ++ t137) ++ t138) ++ t139).size + t140.size ≤ 9223372036854775807 then ((pinfoldref1_Num.f k a0_5 2).bind fun t141 => (if (((((t135 ++ t136) ++ t137) ++ t138) ++ t139) ++ t140).size + t141.size ≤ 9223372036854775807 then ((pinfoldref1_Num.f k a0_6 4).bind fun t142 => (if ((((((t135 ++ t136) ++ t137) ++ t138) ++ t139) ++ t140) ++ t141).size + t142.size ≤ 9223372036854775807 then ((pinfoldref1_Num.f k a0_7 4).bind fun t143 => (if (((((((t135 ++ t136) ++ t137) ++ t138) ++ t139) ++ t140) ++ t141) ++ t142).size + t143.size ≤ 9223372036854775807 then ((pinfoldref1_Num.f k a0_8 4).bind fun t144 => (if ((((((((t135 ++ t136) ++ t137) ++ t138) ++ t139) ++ t140) ++ t141) ++ t142) ++ t143).size + t144.size ≤ 9223372036854775807 then ((pinfoldref1_Num.f k a0_9 4).bind fun t145 => (if (((((((((t135 ++ t136) ++ t137) ++ t138) ++ t139) ++ t140) ++ t141) ++ t142) ++ t143) ++ t144).size + t145.size ≤ 9223372036854775807 then (if ((((((((((t135 ++ t136) ++ t137) ++ t138) ++ t139) ++ t140) ++ t141) ++ t142) ++ t143) ++ t144) ++ t145).size + a0_10.size ≤ 9223372036854775807 then (if 0 ≤ (wrap64 (236 - ((((((((((((t135 ++ t136) ++ t137) ++ t138) ++ t139) ++ t140) ++ t141) ++ t142) ++ t143) ++ t144) ++ t145) ++ a0_10).size : Int))) then (if (wrap64 (236 - ((((((((((((t135 ++ t136) ++ t137) ++ t138) ++ t139) ++ t140) ++ t141) ++ t142) ++ t143) ++ t144) ++ t145) ++ a0_10).size : Int)) : Int).toNat ≤ 281474976710656 then ((some (List.replicate (wrap64 (236 - ((((((((((((t135 ++ t136) ++ t137) ++ t138) ++ t139) ++ t140) ++ t141) ++ t142) ++ t143) ++ t144) ++ t145) ++ a0_10).size : Int)) : Int).toNat 0 : List Int)).bind fun y146 => (if (((((((((((t135 ++ t136) ++ t137) ++ t138) ++ t139) ++ t140) ++ t141) ++ t142) ++ t143) ++ t144) ++ t145) ++ a0_10).size + (strOfNums y146).size ≤ 9223372036854775807 then ((pinfoldref1_Num.f k 1669485411 4).bind fun t149 => (if ((((((((((((t135 ++ t136) ++ t137) ++ t138) ++ t139) ++ t140) ++ t141) ++ t142) ++ t143) ++ t144) ++ t145) ++ a0_10) ++ (strOfNums y146)).size + t149.size ≤ 9223372036854775807 then (if (((((((((((((t135 ++ t136) ++ t137) ++ t138) ++ t139) ++ t140) ++ t141) ++ t142) ++ t143) ++ t144) ++ t145) ++ a0_10) ++ (strOfNums y146)) ++ t149).size + bt133.1.size ≤ 9223372036854775807 then (some ((((((((((((((t135 ++ t136) ++ t137) ++ t138) ++ t139) ++ t140) ++ t141) ++ t142) ++ t143) ++ t144) ++ t145) ++ a0_10) ++ (strOfNums y146)) ++ t149) ++ bt133.1, 0)) else (none)) else (none))) else (none))) else (none)) else (none)) else (none)) else (none))) else (none))) else (none))) else (none))) else (none))) else (none))) else (none))) else (none))) else (none))) else (none)))) else (some ((⟨#[]⟩ : ByteArray), 700)))) else (some ((⟨#[]⟩ : ByteArray), 700)))) = some (r1, r2) := h
  clear h
  replace H := Option.bind_eq_some_iff.mp H
  obtain ⟨t132, A20, H⟩ := H
  replace H : (if t132 = true then ((pinfoldref1_PutOpts.f l0_11).bind fun bt133 => (if bt133.2 = 0 then ((pinfoldref1_Num.f k a0_0 1).bind fun t135 => ((pinfoldref1_Num.f k a0_1 1).bind fun t136 => (if t135.size + t136.size ≤ 9223372036854775807 then ((pinfoldref1_Num.f k (a0_10.size : Int) 1).bind fun t137 => (if (t135 ++ t136).size + t137.size ≤ 9223372036854775807 then ((pinfoldref1_Num.f k a0_2 1).bind fun t138 => (if ((t135 ++ t136) ++ t137).size + t138.size ≤ 9223372036854775807 then ((pinfoldref1_Num.f k a0_3 4).bind fun t139 => (if (((t135 ++ t136) ++ t137) ++ t138).size + t139.size ≤ 9223372036854775807 then ((pinfoldref1_Num.f k a0_4 2).bind fun t140 => (if ((((t135 ++ t136) ++ t137) ++ t138) ++ t139).size + t140.size ≤ 9223372036854775807 then ((pinfoldref1_Num.f k a0_5 2).bind fun t141 => (if (((((t135 ++ t136) ++ t137) ++ t138) ++ t139) ++ t140).size + t141.size ≤ 9223372036854775807 then ((pinfoldref1_Num.f k a0_6 4).bind fun t142 => (if ((((((t135 ++ t136) ++ t137) ++ t138) ++ t139) ++ t140) ++ t141).size + t142.size ≤ 9223372036854775807 then ((pinfoldref1_Num.f k a0_7 4).bind fun t143 => (if (((((((t135 ++ t136) ++ t137) ++ t138) ++ t139) ++ t140) ++ t141) ++ t142).size + t143.size ≤ 9223372036854775807 then ((pinfoldref1_Num.f k a0_8 4).bind fun t144 => (if ((((((((t135 ++ t136) ++ t137) ++ t138) ++ t139) ++ t140) ++ t141) ++ t142) ++ t143).size + t144.size ≤ 9223372036854775807 then ((pinfoldref1_Num.f k a0_9 4).bind fun t145 => (if (((((((((t135 ++ t136) ++ t137) ++ t138) ++ t139) ++ t140) ++ t141) ++ t142) ++ t143) ++ t144).size + t145.size ≤ 9223372036854775807 then (if ((((((((((t135 ++ t136) ++ t137) ++ t138) ++ t139) ++ t140) ++ t141) ++ t142) ++ t143) ++ t144) ++ t145).size + a0_10.size ≤ 9223372036854775807 then (if 0 ≤ (wrap64 (236 - ((((((((((((t135 ++ t136) ++ t137) ++ t138) ++ t139) ++ t140) ++ t141) ++ t142) ++ t143) ++ t144) ++ t145) ++ a0_10).size : Int))) then (if (wrap64 (236 - ((((((((((((t135 ++ t136) ++ t137) ++ t138) ++ t139) ++ t140) ++ t141) ++ t142) ++ t143) ++ t144) ++ t145) ++ a0_10).size : Int)) : Int).toNat ≤ 281474976710656 then ((some (List.replicate (wrap64 (236 - ((((((((((((t135 ++ t136) ++ t137) ++ t138) ++ t139) ++ t140) ++ t141) ++ t142) ++ t143) ++ t144) ++ t145) ++ a0_10).size : Int)) : Int).toNat 0 : List Int)).bind fun y146 => (if (((((((((((t135 ++ t136) ++ t137) ++ t138) ++ t139) ++ t140) ++ t141) ++ t142) ++ t143) ++ t144) ++ t145) ++ a0_10).size + (strOfNums y146).size ≤ 9223372036854775807 then ((pinfoldref1_Num.f k 1669485411 4).bind fun t149 => (if ((((((((((((t135 ++ t136) ++ t137) ++ t138) ++ t139) ++ t140) ++ t141) ++ t142) ++ t143) ++ t144) ++ t145) ++ a0_10) ++ (strOfNums y146)).size + t149.size ≤ 9223372036854775807 then (if (((((((((((((t135 ++ t136) ++ t137) ++ t138) ++ t139) ++ t140) ++ t141) ++ t142) ++ t143) ++ t144) ++ t145) ++ a0_10) ++ (strOfNums y146)) ++ t149).size + bt133.1.size ≤ 9223372036854775807 then (some ((((((((((((((t135 ++ t136) ++ t137) ++ t138) ++ t139) ++ t140) ++ t141) ++ t142) ++ t143) ++ t144) ++ t145) ++ a0_10) ++ (strOfNums y146)) ++ t149) ++ bt133.1, 0)) else (none)) else (none))) else (none))) else (none)) else (none)) else (none)) else (none))) else (none))) else (none))) else (none))) else (none))) else (none))) else (none))) else (none))) else (none))) else (none)))) else (some ((⟨#[]⟩ : ByteArray), 700)))) else (some ((⟨#[]⟩ : ByteArray), 700))) = some (r1, r2) := H
  have A2 := Aside0.mk A20
  clear A20
  by_cases c3 : t132 = true
  · subst c3
    have H1 : ((pinfoldref1_PutOpts.f l0_11).bind fun bt133 => (if bt133.2 = 0 then ((pinfoldref1_Num.f k a0_0 1).bind fun t135 => ((pinfoldref1_Num.f k a0_1 1).bind fun t136 => (if t135.size + t136.size ≤ 9223372036854775807 then ((pinfoldref1_Num.f k (a0_10.size : Int) 1).bind fun t137 => (if (t135 ++ t136).size + t137.size ≤ 9223372036854775807 then ((pinfoldref1_Num.f k a0_2 1).bind fun t138 => (if ((t135 ++ t136) ++ t137).size + t138.size ≤ 9223372036854775807 then ((pinfoldref1_Num.f k a0_3 4).bind fun t139 => (if (((t135 ++ t136) ++ t137) ++ t138).size + t139.size ≤ 9223372036854775807 then ((pinfoldref1_Num.f k a0_4 2).bind fun t140 => (if ((((t135 ++ t136) ++ t137) ++ t138) ++ t139).size + t140.size ≤ 9223372036854775807 then ((pinfoldref1_Num.f k a0_5 2).bind fun t141 => (if (((((t135 ++ t136) ++ t137) ++ t138) ++ t139) ++ t140).size + t141.size ≤ 9223372036854775807 then ((pinfoldref1_Num.f k a0_6 4).bind fun t142 => (if ((((((t135 ++ t136) ++ t137) ++ t138) ++ t139) ++ t140) ++ t141).size + t142.size ≤ 9223372036854775807 then ((pinfoldref1_Num.f k a0_7 4).bind fun t143 => (if (((((((t135 ++ t136) ++ t137) ++ t138) ++ t139) ++ t140) ++ t141) ++ t142).size + t143.size ≤ 9223372036854775807 then ((pinfoldref1_Num.f k a0_8 4).bind fun t144 => (if ((((((((t135 ++ t136) ++ t137) ++ t138) ++ t139) ++ t140) ++ t141) ++ t142) ++ t143).size + t144.size ≤ 9223372036854775807 then ((pinfoldref1_Num.f k a0_9 4).bind fun t145 => (if (((((((((t135 ++ t136) ++ t137) ++ t138) ++ t139) ++ t140) ++ t141) ++ t142) ++ t143) ++ t144).size + t145.size ≤ 9223372036854775807 then (if ((((((((((t135 ++ t136) ++ t137) ++ t138) ++ t139) ++ t140) ++ t141) ++ t142) ++ t143) ++ t144) ++ t145).size + a0_10.size ≤ 9223372036854775807 then (if 0 ≤ (wrap64 (236 - ((((((((((((t135 ++ t136) ++ t137) ++ t138) ++ t139) ++ t140) ++ t141) ++ t142) ++ t143) ++ t144) ++ t145) ++ a0_10).size : Int))) then (if (wrap64 (236 - ((((((((((((t135 ++ t136) ++ t137) ++ t138) ++ t139) ++ t140) ++ t141) ++ t142) ++ t143) ++ t144) ++ t145) ++ a0_10).size : Int)) : Int).toNat ≤ 281474976710656 then ((some (List.replicate (wrap64 (236 - ((((((((((((t135 ++ t136) ++ t137) ++ t138) ++ t139) ++ t140) ++ t141) ++ t142) ++ t143) ++ t144) ++ t145) ++ a0_10).size : Int)) : Int).toNat 0 : List Int)).bind fun y146 => (if (((((((((((t135 ++ t136) ++ t137) ++ t138) ++ t139) ++ t140) ++ t141) ++ t142) ++ t143) ++ t144) ++ t145) ++ a0_10).size + (strOfNums y146).size ≤ 9223372036854775807 then ((pinfoldref1_Num.f k 1669485411 4).bind fun t149 => (if ((((((((((((t135 ++ t136) ++ t137) ++ t138) ++ t139) ++ t140) ++ t141) ++ t142) ++ t143) ++ t144) ++ t145) ++ a0_10) ++ (strOfNums y146)).size + t149.size ≤ 9223372036854775807 then (if (((((((((((((t135 ++ t136) ++ t137) ++ t138) ++ t139) ++ t140) ++ t141) ++ t142) ++ t143) ++ t144) ++ t145) ++ a0_10) ++ (strOfNums y146)) ++ t149).size + bt133.1.size ≤ 9223372036854775807 then (some ((((((((((((((t135 ++ t136) ++ t137) ++ t138) ++ t139) ++ t140) ++ t141) ++ t142) ++ t143) ++ t144) ++ t145) ++ a0_10) ++ (strOfNums y146)) ++ t149) ++ bt133.1, 0)) else (none)) else (none))) else (none))) else (none)) else (none)) else (none)) else (none))) else (none))) else (none))) else (none))) else (none))) else (none))) else (none))) else (none))) else (none))) else (none)))) else (some ((⟨#[]⟩ : ByteArray), 700)))) = some (r1, r2) := by rw [if_pos rfl] at H; exact H
    clear H
    have H := H1
    clear H1
    replace H := Option.bind_eq_some_iff.mp H
    obtain ⟨⟨t133, t134⟩, A40, H⟩ := H
    replace H : (if t134 = 0 then ((pinfoldref1_Num.f k a0_0 1).bind fun t135 => ((pinfoldref1_Num.f k a0_1 1).bind fun t136 => (if t135.size + t136.size ≤ 9223372036854775807 then ((pinfoldref1_Num.f k (a0_10.size : Int) 1).bind fun t137 => (if (t135 ++ t136).size + t137.size ≤ 9223372036854775807 then ((pinfoldref1_Num.f k a0_2 1).bind fun t138 => (if ((t135 ++ t136) ++ t137).size + t138.size ≤ 9223372036854775807 then ((pinfoldref1_Num.f k a0_3 4).bind fun t139 => (if (((t135 ++ t136) ++ t137) ++ t138).size + t139.size ≤ 9223372036854775807 then ((pinfoldref1_Num.f k a0_4 2).bind fun t140 => (if ((((t135 ++ t136) ++ t137) ++ t138) ++ t139).size + t140.size ≤ 9223372036854775807 then ((pinfoldref1_Num.f k a0_5 2).bind fun t141 => (if (((((t135 ++ t136) ++ t137) ++ t138) ++ t139) ++ t140).size + t141.size ≤ 9223372036854775807 then ((pinfoldref1_Num.f k a0_6 4).bind fun t142 => (if ((((((t135 ++ t136) ++ t137) ++ t138) ++ t139) ++ t140) ++ t141).size + t142.size ≤ 9223372036854775807 then ((pinfoldref1_Num.f k a0_7 4).bind fun t143 => (if (((((((t135 ++ t136) ++ t137) ++ t138) ++ t139) ++ t140) ++ t141) ++ t142).size + t143.size ≤ 9223372036854775807 then ((pinfoldref1_Num.f k a0_8 4).bind fun t144 => (if ((((((((t135 ++ t136) ++ t137) ++ t138) ++ t139) ++ t140) ++ t141) ++ t142) ++ t143).size + t144.size ≤ 9223372036854775807 then ((pinfoldref1_Num.f k a0_9 4).bind fun t145 => (if (((((((((t135 ++ t136) ++ t137) ++ t138) ++ t139) ++ t140) ++ t141) ++ t142) ++ t143) ++ t144).size + t145.size ≤ 9223372036854775807 then (if ((((((((((t135 ++ t136) ++ t137) ++ t138) ++ t139) ++ t140) ++ t141) ++ t142) ++ t143) ++ t144) ++ t145).size + a0_10.size ≤ 9223372036854775807 then (if 0 ≤ (wrap64 (236 - ((((((((((((t135 ++ t136) ++ t137) ++ t138) ++ t139) ++ t140) ++ t141) ++ t142) ++ t143) ++ t144) ++ t145) ++ a0_10).size : Int))) then (if (wrap64 (236 - ((((((((((((t135 ++ t136) ++ t137) ++ t138) ++ t139) ++ t140) ++ t141) ++ t142) ++ t143) ++ t144) ++ t145) ++ a0_10).size : Int)) : Int).toNat ≤ 281474976710656 then ((some (List.replicate (wrap64 (236 - ((((((((((((t135 ++ t136) ++ t137) ++ t138) ++ t139) ++ t140) ++ t141) ++ t142) ++ t143) ++ t144) ++ t145) ++ a0_10).size : Int)) : Int).toNat 0 : List Int)).bind fun y146 => (if (((((((((((t135 ++ t136) ++ t137) ++ t138) ++ t139) ++ t140) ++ t141) ++ t142) ++ t143) ++ t144) ++ t145) ++ a0_10).size + (strOfNums y146).size ≤ 9223372036854775807 then ((pinfoldref1_Num.f k 1669485411 4).bind fun t149 => (if ((((((((((((t135 ++ t136) ++ t137) ++ t138) ++ t139) ++ t140) ++ t141) ++ t142) ++ t143) ++ t144) ++ t145) ++ a0_10) ++ (strOfNums y146)).size + t149.size ≤ 9223372036854775807 then (if (((((((((((((t135 ++ t136) ++ t137) ++ t138) ++ t139) ++ t140) ++ t141) ++ t142) ++ t143) ++ t144) ++ t145) ++ a0_10) ++ (strOfNums y146)) ++ t149).size + t133.size ≤ 9223372036854775807 then (some ((((((((((((((t135 ++ t136) ++ t137) ++ t138) ++ t139) ++ t140) ++ t141) ++ t142) ++ t143) ++ t144) ++ t145) ++ a0_10) ++ (strOfNums y146)) ++ t149) ++ t133, 0)) else (none)) else (none))) else (none))) else (none)) else (none)) else (none)) else (none))) else (none))) else (none))) else (none))) else (none))) else (none))) else (none))) else (none))) else (none))) else (none)))) else (some ((⟨#[]⟩ : ByteArray), 700))) = some (r1, r2) := H
    have A4 := Aside0.mk A40
    clear A40
    by_cases c5 : t134 = 0
    · rw [if_pos c5] at H
      have c5b0 : (t134 == 0) = true := beq_iff_eq.mpr c5
      have c5b1 : (t134 != 0) = false := bne_eq_false_iff_eq.mpr c5
      clear c5
      replace H := Option.bind_eq_some_iff.mp H
      obtain ⟨t135, A60, H⟩ := H
      replace H : ((pinfoldref1_Num.f k a0_1 1).bind fun t136 => (if t135.size + t136.size ≤ 9223372036854775807 then ((pinfoldref1_Num.f k (a0_10.size : Int) 1).bind fun t137 => (if (t135 ++ t136).size + t137.size ≤ 9223372036854775807 then ((pinfoldref1_Num.f k a0_2 1).bind fun t138 => (if ((t135 ++ t136) ++ t137).size + t138.size ≤ 9223372036854775807 then ((pinfoldref1_Num.f k a0_3 4).bind fun t139 => (if (((t135 ++ t136) ++ t137) ++ t138).size + t139.size ≤ 9223372036854775807 then ((pinfoldref1_Num.f k a0_4 2).bind fun t140 => (if ((((t135 ++ t136) ++ t137) ++ t138) ++ t139).size + t140.size ≤ 9223372036854775807 then ((pinfoldref1_Num.f k a0_5 2).bind fun t141 => (if (((((t135 ++ t136) ++ t137) ++ t138) ++ t139) ++ t140).size + t141.size ≤ 9223372036854775807 then ((pinfoldref1_Num.f k a0_6 4).bind fun t142 => (if ((((((t135 ++ t136) ++ t137) ++ t138) ++ t139) ++ t140) ++ t141).size + t142.size ≤ 9223372036854775807 then ((pinfoldref1_Num.f k a0_7 4).bind fun t143 => (if (((((((t135 ++ t136) ++ t137) ++ t138) ++ t139) ++ t140) ++ t141) ++ t142).size + t143.size ≤ 9223372036854775807 then ((pinfoldref1_Num.f k a0_8 4).bind fun t144 => (if ((((((((t135 ++ t136) ++ t137) ++ t138) ++ t139) ++ t140) ++ t141) ++ t142) ++ t143).size + t144.size ≤ 9223372036854775807 then ((pinfoldref1_Num.f k a0_9 4).bind fun t145 => (if (((((((((t135 ++ t136) ++ t137) ++ t138) ++ t139) ++ t140) ++ t141) ++ t142) ++ t143) ++ t144).size + t145.size ≤ 9223372036854775807 then (if ((((((((((t135 ++ t136) ++ t137) ++ t138) ++ t139) ++ t140) ++ t141) ++ t142) ++ t143) ++ t144) ++ t145).size + a0_10.size ≤ 9223372036854775807 then (if 0 ≤ (wrap64 (236 - ((((((((((((t135 ++ t136) ++ t137) ++ t138) ++ t139) ++ t140) ++ t141) ++ t142) ++ t143) ++ t144) ++ t145) ++ a0_10).size : Int))) then (if (wrap64 (236 - ((((((((((((t135 ++ t136) ++ t137) ++ t138) ++ t139) ++ t140) ++ t141) ++ t142) ++ t143) ++ t144) ++ t145) ++ a0_10).size : Int)) : Int).toNat ≤ 281474976710656 then ((some (List.replicate (wrap64 (236 - ((((((((((((t135 ++ t136) ++ t137) ++ t138) ++ t139) ++ t140) ++ t141) ++ t142) ++ t143) ++ t144) ++ t145) ++ a0_10).size : Int)) : Int).toNat 0 : List Int)).bind fun y146 => (if (((((((((((t135 ++ t136) ++ t137) ++ t138) ++ t139) ++ t140) ++ t141) ++ t142) ++ t143) ++ t144) ++ t145) ++ a0_10).size + (strOfNums y146).size ≤ 9223372036854775807 then ((pinfoldref1_Num.f k 1669485411 4).bind fun t149 => (if ((((((((((((t135 ++ t136) ++ t137) ++ t138) ++ t139) ++ t140) ++ t141) ++ t142) ++ t143) ++ t144) ++ t145) ++ a0_10) ++ (strOfNums y146)).size + t149.size ≤ 9223372036854775807 then (if (((((((((((((t135 ++ t136) ++ t137) ++ t138) ++ t139) ++ t140) ++ t141) ++ t142) ++ t143) ++ t144) ++ t145) ++ a0_10) ++ (strOfNums y146)) ++ t149).size + t133.size ≤ 9223372036854775807 then (some ((((((((((((((t135 ++ t136) ++ t137) ++ t138) ++ t139) ++ t140) ++ t141) ++ t142) ++ t143) ++ t144) ++ t145) ++ a0_10) ++ (strOfNums y146)) ++ t149) ++ t133, 0)) else (none)) else (none))) else (none))) else (none)) else (none)) else (none)) else (none))) else (none))) else (none))) else (none))) else (none))) else (none))) else (none))) else (none))) else (none))) else (none))) = some (r1, r2) := H
      have A6 := Aside0.mk A60
      clear A60
      replace H := Option.bind_eq_some_iff.mp H
      obtain ⟨t136, A70, H⟩ := H
      replace H : (if t135.size + t136.size ≤ 9223372036854775807 then ((pinfoldref1_Num.f k (a0_10.size : Int) 1).bind fun t137 => (if (t135 ++ t136).size + t137.size ≤ 9223372036854775807 then ((pinfoldref1_Num.f k a0_2 1).bind fun t138 => (if ((t135 ++ t136) ++ t137).size + t138.size ≤ 9223372036854775807 then ((pinfoldref1_Num.f k a0_3 4).bind fun t139 => (if (((t135 ++ t136) ++ t137) ++ t138).size + t139.size ≤ 9223372036854775807 then ((pinfoldref1_Num.f k a0_4 2).bind fun t140 => (if ((((t135 ++ t136) ++ t137) ++ t138) ++ t139).size + t140.size ≤ 9223372036854775807 then ((pinfoldref1_Num.f k a0_5 2).bind fun t141 => (if (((((t135 ++ t136) ++ t137) ++ t138) ++ t139) ++ t140).size + t141.size ≤ 9223372036854775807 then ((pinfoldref1_Num.f k a0_6 4).bind fun t142 => (if ((((((t135 ++ t136) ++ t137) ++ t138) ++ t139) ++ t140) ++ t141).size + t142.size ≤ 9223372036854775807 then ((pinfoldref1_Num.f k a0_7 4).bind fun t143 => (if (((((((t135 ++ t136) ++ t137) ++ t138) ++ t139) ++ t140) ++ t141) ++ t142).size + t143.size ≤ 9223372036854775807 then ((pinfoldref1_Num.f k a0_8 4).bind fun t144 => (if ((((((((t135 ++ t136) ++ t137) ++ t138) ++ t139) ++ t140) ++ t141) ++ t142) ++ t143).size + t144.size ≤ 9223372036854775807 then ((pinfoldref1_Num.f k a0_9 4).bind fun t145 => (if (((((((((t135 ++ t136) ++ t137) ++ t138) ++ t139) ++ t140) ++ t141) ++ t142) ++ t143) ++ t144).size + t145.size ≤ 9223372036854775807 then (if ((((((((((t135 ++ t136) ++ t137) ++ t138) ++ t139) ++ t140) ++ t141) ++ t142) ++ t143) ++ t144) ++ t145).size + a0_10.size ≤ 9223372036854775807 then (if 0 ≤ (wrap64 (236 - ((((((((((((t135 ++ t136) ++ t137) ++ t138) ++ t139) ++ t140) ++ t141) ++ t142) ++ t143) ++ t144) ++ t145) ++ a0_10).size : Int))) then (if (wrap64 (236 - ((((((((((((t135 ++ t136) ++ t137) ++ t138) ++ t139) ++ t140) ++ t141) ++ t142) ++ t143) ++ t144) ++ t145) ++ a0_10).size : Int)) : Int).toNat ≤ 281474976710656 then ((some (List.replicate (wrap64 (236 - ((((((((((((t135 ++ t136) ++ t137) ++ t138) ++ t139) ++ t140) ++ t141) ++ t142) ++ t143) ++ t144) ++ t145) ++ a0_10).size : Int)) : Int).toNat 0 : List Int)).bind fun y146 => (if (((((((((((t135 ++ t136) ++ t137) ++ t138) ++ t139) ++ t140) ++ t141) ++ t142) ++ t143) ++ t144) ++ t145) ++ a0_10).size + (strOfNums y146).size ≤ 9223372036854775807 then ((pinfoldref1_Num.f k 1669485411 4).bind fun t149 => (if ((((((((((((t135 ++ t136) ++ t137) ++ t138) ++ t139) ++ t140) ++ t141) ++ t142) ++ t143) ++ t144) ++ t145) ++ a0_10) ++ (strOfNums y146)).size + t149.size ≤ 9223372036854775807 then (if (((((((((((((t135 ++ t136) ++ t137) ++ t138) ++ t139) ++ t140) ++ t141) ++ t142) ++ t143) ++ t144) ++ t145) ++ a0_10) ++ (strOfNums y146)) ++ t149).size + t133.size ≤ 9223372036854775807 then (some ((((((((((((((t135 ++ t136) ++ t137) ++ t138) ++ t139) ++ t140) ++ t141) ++ t142) ++ t143) ++ t144) ++ t145) ++ a0_10) ++ (strOfNums y146)) ++ t149) ++ t133, 0)) else (none)) else (none))) else (none))) else (none)) else (none)) else (none)) else (none))) else (none))) else (none))) else (none))) else (none))) else (none))) else (none))) else (none))) else (none))) else (none)) = some (r1, r2) := H
      have A7 := Aside0.mk A70
      clear A70
      by_cases c8 : t135.size + t136.size ≤ 9223372036854775807
      · rw [if_pos c8] at H
        have c8b0 := eq_true c8
        have c8b1 : decide (t135.size + t136.size ≤ 9223372036854775807) = true := decide_eq_true c8
        try have c8b2 : (9223372036854775807 < t135.size + t136.size) = False := eq_false (Nat.not_lt.2 c8)
        try (have c8z := c8b2; simp only [ByteArray.size_append] at c8z)
        replace H := Option.bind_eq_some_iff.mp H
        obtain ⟨t137, A90, H⟩ := H
        replace H : (if (t135 ++ t136).size + t137.size ≤ 9223372036854775807 then ((pinfoldref1_Num.f k a0_2 1).bind fun t138 => (if ((t135 ++ t136) ++ t137).size + t138.size ≤ 9223372036854775807 then ((pinfoldref1_Num.f k a0_3 4).bind fun t139 => (if (((t135 ++ t136) ++ t137) ++ t138).size + t139.size ≤ 9223372036854775807 then ((pinfoldref1_Num.f k a0_4 2).bind fun t140 => (if ((((t135 ++ t136) ++ t137) ++ t138) ++ t139).size + t140.size ≤ 9223372036854775807 then ((pinfoldref1_Num.f k a0_5 2).bind fun t141 => (if (((((t135 ++ t136) ++ t137) ++ t138) ++ t139) ++ t140).size + t141.size ≤ 9223372036854775807 then ((pinfoldref1_Num.f k a0_6 4).bind fun t142 => (if ((((((t135 ++ t136) ++ t137) ++ t138) ++ t139) ++ t140) ++ t141).size + t142.size ≤ 9223372036854775807 then ((pinfoldref1_Num.f k a0_7 4).bind fun t143 => (if (((((((t135 ++ t136) ++ t137) ++ t138) ++ t139) ++ t140) ++ t141) ++ t142).size + t143.size ≤ 9223372036854775807 then ((pinfoldref1_Num.f k a0_8 4).bind fun t144 => (if ((((((((t135 ++ t136) ++ t137) ++ t138) ++ t139) ++ t140) ++ t141) ++ t142) ++ t143).size + t144.size ≤ 9223372036854775807 then ((pinfoldref1_Num.f k a0_9 4).bind fun t145 => (if (((((((((t135 ++ t136) ++ t137) ++ t138) ++ t139) ++ t140) ++ t141) ++ t142) ++ t143) ++ t144).size + t145.size ≤ 9223372036854775807 then (if ((((((((((t135 ++ t136) ++ t137) ++ t138) ++ t139) ++ t140) ++ t141) ++ t142) ++ t143) ++ t144) ++ t145).size + a0_10.size ≤ 9223372036854775807 then (if 0 ≤ (wrap64 (236 - ((((((((((((t135 ++ t136) ++ t137) ++ t138) ++ t139) ++ t140) ++ t141) ++ t142) ++ t143) ++ t144) ++ t145) ++ a0_10).size : Int))) then (if (wrap64 (236 - ((((((((((((t135 ++ t136) ++ t137) ++ t138) ++ t139) ++ t140) ++ t141) ++ t142) ++ t143) ++ t144) ++ t145) ++ a0_10).size : Int)) : Int).toNat ≤ 281474976710656 then ((some (List.replicate (wrap64 (236 - ((((((((((((t135 ++ t136) ++ t137) ++ t138) ++ t139) ++ t140) ++ t141) ++ t142) ++ t143) ++ t144) ++ t145) ++ a0_10).size : Int)) : Int).toNat 0 : List Int)).bind fun y146 => (if (((((((((((t135 ++ t136) ++ t137) ++ t138) ++ t139) ++ t140) ++ t141) ++ t142) ++ t143) ++ t144) ++ t145) ++ a0_10).size + (strOfNums y146).size ≤ 9223372036854775807 then ((pinfoldref1_Num.f k 1669485411 4).bind fun t149 => (if ((((((((((((t135 ++ t136) ++ t137) ++ t138) ++ t139) ++ t140) ++ t141) ++ t142) ++ t143) ++ t144) ++ t145) ++ a0_10) ++ (strOfNums y146)).size + t149.size ≤ 9223372036854775807 then (if (((((((((((((t135 ++ t136) ++ t137) ++ t138) ++ t139) ++ t140) ++ t141) ++ t142) ++ t143) ++ t144) ++ t145) ++ a0_10) ++ (strOfNums y146)) ++ t149).size + t133.size ≤ 9223372036854775807 then (some ((((((((((((((t135 ++ t136) ++ t137) ++ t138) ++ t139) ++ t140) ++ t141) ++ t142) ++ t143) ++ t144) ++ t145) ++ a0_10) ++ (strOfNums y146)) ++ t149) ++ t133, 0)) else (none)) else (none))) else (none))) else (none)) else (none)) else (none)) else (none))) else (none))) else (none))) else (none))) else (none))) else (none))) else (none))) else (none))) else (none)) = some (r1, r2) := H
        have A9 := Aside0.mk A90
        clear A90
        by_cases c10 : (t135 ++ t136).size + t137.size ≤ 9223372036854775807
        · rw [if_pos c10] at H
          have c10b0 := eq_true c10
          have c10b1 : decide ((t135 ++ t136).size + t137.size ≤ 9223372036854775807) = true := decide_eq_true c10
          try have c10b2 : (9223372036854775807 < (t135 ++ t136).size + t137.size) = False := eq_false (Nat.not_lt.2 c10)
          try (have c10z := c10b2; simp only [ByteArray.size_append] at c10z)
          replace H := Option.bind_eq_some_iff.mp H
          obtain ⟨t138, A110, H⟩ := H
          replace H : (if ((t135 ++ t136) ++ t137).size + t138.size ≤ 9223372036854775807 then ((pinfoldref1_Num.f k a0_3 4).bind fun t139 => (if (((t135 ++ t136) ++ t137) ++ t138).size + t139.size ≤ 9223372036854775807 then ((pinfoldref1_Num.f k a0_4 2).bind fun t140 => (if ((((t135 ++ t136) ++ t137) ++ t138) ++ t139).size + t140.size ≤ 9223372036854775807 then ((pinfoldref1_Num.f k a0_5 2).bind fun t141 => (if (((((t135 ++ t136) ++ t137) ++ t138) ++ t139) ++ t140).size + t141.size ≤ 9223372036854775807 then ((pinfoldref1_Num.f k a0_6 4).bind fun t142 => (if ((((((t135 ++ t136) ++ t137) ++ t138) ++ t139) ++ t140) ++ t141).size + t142.size ≤ 9223372036854775807 then ((pinfoldref1_Num.f k a0_7 4).bind fun t143 => (if (((((((t135 ++ t136) ++ t137) ++ t138) ++ t139) ++ t140) ++ t141) ++ t142).size + t143.size ≤ 9223372036854775807 then ((pinfoldref1_Num.f k a0_8 4).bind fun t144 => (if ((((((((t135 ++ t136) ++ t137) ++ t138) ++ t139) ++ t140) ++ t141) ++ t142) ++ t143).size + t144.size ≤ 9223372036854775807 then ((pinfoldref1_Num.f k a0_9 4).bind fun t145 => (if (((((((((t135 ++ t136) ++ t137) ++ t138) ++ t139) ++ t140) ++ t141) ++ t142) ++ t143) ++ t144).size + t145.size ≤ 9223372036854775807 then (if ((((((((((t135 ++ t136) ++ t137) ++ t138) ++ t139) ++ t140) ++ t141) ++ t142) ++ t143) ++ t144) ++ t145).size + a0_10.size ≤ 9223372036854775807 then (if 0 ≤ (wrap64 (236 - ((((((((((((t135 ++ t136) ++ t137) ++ t138) ++ t139) ++ t140) ++ t141) ++ t142) ++ t143) ++ t144) ++ t145) ++ a0_10).size : Int))) then (if (wrap64 (236 - ((((((((((((t135 ++ t136) ++ t137) ++ t138) ++ t139) ++ t140) ++ t141) ++ t142) ++ t143) ++ t144) ++ t145) ++ a0_10).size : Int)) : Int).toNat ≤ 281474976710656 then ((some (List.replicate (wrap64 (236 - ((((((((((((t135 ++ t136) ++ t137) ++ t138) ++ t139) ++ t140) ++ t141) ++ t142) ++ t143) ++ t144) ++ t145) ++ a0_10).size : Int)) : Int).toNat 0 : List Int)).bind fun y146 => (if (((((((((((t135 ++ t136) ++ t137) ++ t138) ++ t139) ++ t140) ++ t141) ++ t142) ++ t143) ++ t144) ++ t145) ++ a0_10).size + (strOfNums y146).size ≤ 9223372036854775807 then ((pinfoldref1_Num.f k 1669485411 4).bind fun t149 => (if ((((((((((((t135 ++ t136) ++ t137) ++ t138) ++ t139) ++ t140) ++ t141) ++ t142) ++ t143) ++ t144) ++ t145) ++ a0_10) ++ (strOfNums y146)).size + t149.size ≤ 9223372036854775807 then (if (((((((((((((t135 ++ t136) ++ t137) ++ t138) ++ t139) ++ t140) ++ t141) ++ t142) ++ t143) ++ t144) ++ t145) ++ a0_10) ++ (strOfNums y146)) ++ t149).size + t133.size ≤ 9223372036854775807 then (some ((((((((((((((t135 ++ t136) ++ t137) ++ t138) ++ t139) ++ t140) ++ t141) ++ t142) ++ t143) ++ t144) ++ t145) ++ a0_10) ++ (strOfNums y146)) ++ t149) ++ t133, 0)) else (none)) else (none))) else (none))) else (none)) else (none)) else (none)) else (none))) else (none))) else (none))) else (none))) else (none))) else (none))) else (none))) else (none)) = some (r1, r2) := H
          have A11 := Aside0.mk A110
          clear A110
          by_cases c12 : ((t135 ++ t136) ++ t137).size + t138.size ≤ 9223372036854775807
          · rw [if_pos c12] at H
            have c12b0 := eq_true c12
            have c12b1 : decide (((t135 ++ t136) ++ t137).size + t138.size ≤ 9223372036854775807) = true := decide_eq_true c12
            try have c12b2 : (9223372036854775807 < ((t135 ++ t136) ++ t137).size + t138.size) = False := eq_false (Nat.not_lt.2 c12)
            try (have c12z := c12b2; simp only [ByteArray.size_append] at c12z)
            replace H := Option.bind_eq_some_iff.mp H
            obtain ⟨t139, A130, H⟩ := H
            replace H : (if (((t135 ++ t136) ++ t137) ++ t138).size + t139.size ≤ 9223372036854775807 then ((pinfoldref1_Num.f k a0_4 2).bind fun t140 => (if ((((t135 ++ t136) ++ t137) ++ t138) ++ t139).size + t140.size ≤ 9223372036854775807 then ((pinfoldref1_Num.f k a0_5 2).bind fun t141 => (if (((((t135 ++ t136) ++ t137) ++ t138) ++ t139) ++ t140).size + t141.size ≤ 9223372036854775807 then ((pinfoldref1_Num.f k a0_6 4).bind fun t142 => (if ((((((t135 ++ t136) ++ t137) ++ t138) ++ t139) ++ t140) ++ t141).size + t142.size ≤ 9223372036854775807 then ((pinfoldref1_Num.f k a0_7 4).bind fun t143 => (if (((((((t135 ++ t136) ++ t137) ++ t138) ++ t139) ++ t140) ++ t141) ++ t142).size + t143.size ≤ 9223372036854775807 then ((pinfoldref1_Num.f k a0_8 4).bind fun t144 => (if ((((((((t135 ++ t136) ++ t137) ++ t138) ++ t139) ++ t140) ++ t141) ++ t142) ++ t143).size + t144.size ≤ 9223372036854775807 then ((pinfoldref1_Num.f k a0_9 4).bind fun t145 => (if (((((((((t135 ++ t136) ++ t137) ++ t138) ++ t139) ++ t140) ++ t141) ++ t142) ++ t143) ++ t144).size + t145.size ≤ 9223372036854775807 then (if ((((((((((t135 ++ t136) ++ t137) ++ t138) ++ t139) ++ t140) ++ t141) ++ t142) ++ t143) ++ t144) ++ t145).size + a0_10.size ≤ 9223372036854775807 then (if 0 ≤ (wrap64 (236 - ((((((((((((t135 ++ t136) ++ t137) ++ t138) ++ t139) ++ t140) ++ t141) ++ t142) ++ t143) ++ t144) ++ t145) ++ a0_10).size : Int))) then (if (wrap64 (236 - ((((((((((((t135 ++ t136) ++ t137) ++ t138) ++ t139) ++ t140) ++ t141) ++ t142) ++ t143) ++ t144) ++ t145) ++ a0_10).size : Int)) : Int).toNat ≤ 281474976710656 then ((some (List.replicate (wrap64 (236 - ((((((((((((t135 ++ t136) ++ t137) ++ t138) ++ t139) ++ t140) ++ t141) ++ t142) ++ t143) ++ t144) ++ t145) ++ a0_10).size : Int)) : Int).toNat 0 : List Int)).bind fun y146 => (if (((((((((((t135 ++ t136) ++ t137) ++ t138) ++ t139) ++ t140) ++ t141) ++ t142) ++ t143) ++ t144) ++ t145) ++ a0_10).size + (strOfNums y146).size ≤ 9223372036854775807 then ((pinfoldref1_Num.f k 1669485411 4).bind fun t149 => (if ((((((((((((t135 ++ t136) ++ t137) ++ t138) ++ t139) ++ t140) ++ t141) ++ t142) ++ t143) ++ t144) ++ t145) ++ a0_10) ++ (strOfNums y146)).size + t149.size ≤ 9223372036854775807 then (if (((((((((((((t135 ++ t136) ++ t137) ++ t138) ++ t139) ++ t140) ++ t141) ++ t142) ++ t143) ++ t144) ++ t145) ++ a0_10) ++ (strOfNums y146)) ++ t149).size + t133.size ≤ 9223372036854775807 then (some ((((((((((((((t135 ++ t136) ++ t137) ++ t138) ++ t139) ++ t140) ++ t141) ++ t142) ++ t143) ++ t144) ++ t145) ++ a0_10) ++ (strOfNums y146)) ++ t149) ++ t133, 0)) else (none)) else (none))) else (none))) else (none)) else (none)) else (none)) else (none))) else (none))) else (none))) else (none))) else (none))) else (none))) else (none)) = some (r1, r2) := H
            have A13 := Aside0.mk A130
            clear A130
            by_cases c14 : (((t135 ++ t136) ++ t137) ++ t138).size + t139.size ≤ 9223372036854775807
            · rw [if_pos c14] at H
              have c14b0 := eq_true c14
              have c14b1 : decide ((((t135 ++ t136) ++ t137) ++ t138).size + t139.size ≤ 9223372036854775807) = true := decide_eq_true c14
              try have c14b2 : (9223372036854775807 < (((t135 ++ t136) ++ t137) ++ t138).size + t139.size) = False := eq_false (Nat.not_lt.2 c14)
              try (have c14z := c14b2; simp only [ByteArray.size_append] at c14z)
              replace H := Option.bind_eq_some_iff.mp H
              obtain ⟨t140, A150, H⟩ := H
              replace H : (if ((((t135 ++ t136) ++ t137) ++ t138) ++ t139).size + t140.size ≤ 9223372036854775807 then ((pinfoldref1_Num.f k a0_5 2).bind fun t141 => (if (((((t135 ++ t136) ++ t137) ++ t138) ++ t139) ++ t140).size + t141.size ≤ 9223372036854775807 then ((pinfoldref1_Num.f k a0_6 4).bind fun t142 => (if ((((((t135 ++ t136) ++ t137) ++ t138) ++ t139) ++ t140) ++ t141).size + t142.size ≤ 9223372036854775807 then ((pinfoldref1_Num.f k a0_7 4).bind fun t143 => (if (((((((t135 ++ t136) ++ t137) ++ t138) ++ t139) ++ t140) ++ t141) ++ t142).size + t143.size ≤ 9223372036854775807 then ((pinfoldref1_Num.f k a0_8 4).bind fun t144 => (if ((((((((t135 ++ t136) ++ t137) ++ t138) ++ t139) ++ t140) ++ t141) ++ t142) ++ t143).size + t144.size ≤ 9223372036854775807 then ((pinfoldref1_Num.f k a0_9 4).bind fun t145 => (if (((((((((t135 ++ t136) ++ t137) ++ t138) ++ t139) ++ t140) ++ t141) ++ t142) ++ t143) ++ t144).size + t145.size ≤ 9223372036854775807 then (if ((((((((((t135 ++ t136) ++ t137) ++ t138) ++ t139) ++ t140) ++ t141) ++ t142) ++ t143) ++ t144) ++ t145).size + a0_10.size ≤ 9223372036854775807 then (if 0 ≤ (wrap64 (236 - ((((((((((((t135 ++ t136) ++ t137) ++ t138) ++ t139) ++ t140) ++ t141) ++ t142) ++ t143) ++ t144) ++ t145) ++ a0_10).size : Int))) then (if (wrap64 (236 - ((((((((((((t135 ++ t136) ++ t137) ++ t138) ++ t139) ++ t140) ++ t141) ++ t142) ++ t143) ++ t144) ++ t145) ++ a0_10).size : Int)) : Int).toNat ≤ 281474976710656 then ((some (List.replicate (wrap64 (236 - ((((((((((((t135 ++ t136) ++ t137) ++ t138) ++ t139) ++ t140) ++ t141) ++ t142) ++ t143) ++ t144) ++ t145) ++ a0_10).size : Int)) : Int).toNat 0 : List Int)).bind fun y146 => (if (((((((((((t135 ++ t136) ++ t137) ++ t138) ++ t139) ++ t140) ++ t141) ++ t142) ++ t143) ++ t144) ++ t145) ++ a0_10).size + (strOfNums y146).size ≤ 9223372036854775807 then ((pinfoldref1_Num.f k 1669485411 4).bind fun t149 => (if ((((((((((((t135 ++ t136) ++ t137) ++ t138) ++ t139) ++ t140) ++ t141) ++ t142) ++ t143) ++ t144) ++ t145) ++ a0_10) ++ (strOfNums y146)).size + t149.size ≤ 9223372036854775807 then (if (((((((((((((t135 ++ t136) ++ t137) ++ t138) ++ t139) ++ t140) ++ t141) ++ t142) ++ t143) ++ t144) ++ t145) ++ a0_10) ++ (strOfNums y146)) ++ t149).size + t133.size ≤ 9223372036854775807 then (some ((((((((((((((t135 ++ t136) ++ t137) ++ t138) ++ t139) ++ t140) ++ t141) ++ t142) ++ t143) ++ t144) ++ t145) ++ a0_10) ++ (strOfNums y146)) ++ t149) ++ t133, 0)) else (none)) else (none))) else (none))) else (none)) else (none)) else (none)) else (none))) else (none))) else (none))) else (none))) else (none))) else (none)) = some (r1, r2) := H
              have A15 := Aside0.mk A150
              clear A150
              by_cases c16 : ((((t135 ++ t136) ++ t137) ++ t138) ++ t139).size + t140.size ≤ 9223372036854775807
              · rw [if_pos c16] at H
                have c16b0 := eq_true c16
                have c16b1 : decide (((((t135 ++ t136) ++ t137) ++ t138) ++ t139).size + t140.size ≤ 9223372036854775807) = true := decide_eq_true c16
                try have c16b2 : (9223372036854775807 < ((((t135 ++ t136) ++ t137) ++ t138) ++ t139).size + t140.size) = False := eq_false (Nat.not_lt.2 c16)
                try (have c16z := c16b2; simp only [ByteArray.size_append] at c16z)
                replace H := Option.bind_eq_some_iff.mp H
                obtain ⟨t141, A170, H⟩ := H
                replace H : (if (((((t135 ++ t136) ++ t137) ++ t138) ++ t139) ++ t140).size + t141.size ≤ 9223372036854775807 then ((pinfoldref1_Num.f k a0_6 4).bind fun t142 => (if ((((((t135 ++ t136) ++ t137) ++ t138) ++ t139) ++ t140) ++ t141).size + t142.size ≤ 9223372036854775807 then ((pinfoldref1_Num.f k a0_7 4).bind fun t143 => (if (((((((t135 ++ t136) ++ t137) ++ t138) ++ t139) ++ t140) ++ t141) ++ t142).size + t143.size ≤ 9223372036854775807 then ((pinfoldref1_Num.f k a0_8 4).bind fun t144 => (if ((((((((t135 ++ t136) ++ t137) ++ t138) ++ t139) ++ t140) ++ t141) ++ t142) ++ t143).size + t144.size ≤ 9223372036854775807 then ((pinfoldref1_Num.f k a0_9 4).bind fun t145 => (if (((((((((t135 ++ t136) ++ t137) ++ t138) ++ t139) ++ t140) ++ t141) ++ t142) ++ t143) ++ t144).size + t145.size ≤ 9223372036854775807 then (if ((((((((((t135 ++ t136) ++ t137) ++ t138) ++ t139) ++ t140) ++ t141) ++ t142) ++ t143) ++ t144) ++ t145).size + a0_10.size ≤ 9223372036854775807 then (if 0 ≤ (wrap64 (236 - ((((((((((((t135 ++ t136) ++ t137) ++ t138) ++ t139) ++ t140) ++ t141) ++ t142) ++ t143) ++ t144) ++ t145) ++ a0_10).size : Int))) then (if (wrap64 (236 - ((((((((((((t135 ++ t136) ++ t137) ++ t138) ++ t139) ++ t140) ++ t141) ++ t142) ++ t143) ++ t144) ++ t145) ++ a0_10).size : Int)) : Int).toNat ≤ 281474976710656 then ((some (List.replicate (wrap64 (236 - ((((((((((((t135 ++ t136) ++ t137) ++ t138) ++ t139) ++ t140) ++ t141) ++ t142) ++ t143) ++ t144) ++ t145) ++ a0_10).size : Int)) : Int).toNat 0 : List Int)).bind fun y146 => (if (((((((((((t135 ++ t136) ++ t137) ++ t138) ++ t139) ++ t140) ++ t141) ++ t142) ++ t143) ++ t144) ++ t145) ++ a0_10).size + (strOfNums y146).size ≤ 9223372036854775807 then ((pinfoldref1_Num.f k 1669485411 4).bind fun t149 => (if ((((((((((((t135 ++ t136) ++ t137) ++ t138) ++ t139) ++ t140) ++ t141) ++ t142) ++ t143) ++ t144) ++ t145) ++ a0_10) ++ (strOfNums y146)).size + t149.size ≤ 9223372036854775807 then (if (((((((((((((t135 ++ t136) ++ t137) ++ t138) ++ t139) ++ t140) ++ t141) ++ t142) ++ t143) ++ t144) ++ t145) ++ a0_10) ++ (strOfNums y146)) ++ t149).size + t133.size ≤ 9223372036854775807 then (some ((((((((((((((t135 ++ t136) ++ t137) ++ t138) ++ t139) ++ t140) ++ t141) ++ t142) ++ t143) ++ t144) ++ t145) ++ a0_10) ++ (strOfNums y146)) ++ t149) ++ t133, 0)) else (none)) else (none))) else (none))) else (none)) else (none)) else (none)) else (none))) else (none))) else (none))) else (none))) else (none)) = some (r1, r2) := H
                have A17 := Aside0.mk A170
                clear A170
                by_cases c18 : (((((t135 ++ t136) ++ t137) ++ t138) ++ t139) ++ t140).size + t141.size ≤ 9223372036854775807
                · rw [if_pos c18] at H
                  have c18b0 := eq_true c18
                  have c18b1 : decide ((((((t135 ++ t136) ++ t137) ++ t138) ++ t139) ++ t140).size + t141.size ≤ 9223372036854775807) = true := decide_eq_true c18
                  try have c18b2 : (9223372036854775807 < (((((t135 ++ t136) ++ t137) ++ t138) ++ t139) ++ t140).size + t141.size) = False := eq_false (Nat.not_lt.2 c18)
                  try (have c18z := c18b2; simp only [ByteArray.size_append] at c18z)
                  replace H := Option.bind_eq_some_iff.mp H
                  obtain ⟨t142, A190, H⟩ := H
                  replace H : (if ((((((t135 ++ t136) ++ t137) ++ t138) ++ t139) ++ t140) ++ t141).size + t142.size ≤ 9223372036854775807 then ((pinfoldref1_Num.f k a0_7 4).bind fun t143 => (if (((((((t135 ++ t136) ++ t137) ++ t138) ++ t139) ++ t140) ++ t141) ++ t142).size + t143.size ≤ 9223372036854775807 then ((pinfoldref1_Num.f k a0_8 4).bind fun t144 => (if ((((((((t135 ++ t136) ++ t137) ++ t138) ++ t139) ++ t140) ++ t141) ++ t142) ++ t143).size + t144.size ≤ 9223372036854775807 then ((pinfoldref1_Num.f k a0_9 4).bind fun t145 => (if (((((((((t135 ++ t136) ++ t137) ++ t138) ++ t139) ++ t140) ++ t141) ++ t142) ++ t143) ++ t144).size + t145.size ≤ 9223372036854775807 then (if ((((((((((t135 ++ t136) ++ t137) ++ t138) ++ t139) ++ t140) ++ t141) ++ t142) ++ t143) ++ t144) ++ t145).size + a0_10.size ≤ 9223372036854775807 then (if 0 ≤ (wrap64 (236 - ((((((((((((t135 ++ t136) ++ t137) ++ t138) ++ t139) ++ t140) ++ t141) ++ t142) ++ t143) ++ t144) ++ t145) ++ a0_10).size : Int))) then (if (wrap64 (236 - ((((((((((((t135 ++ t136) ++ t137) ++ t138) ++ t139) ++ t140) ++ t141) ++ t142) ++ t143) ++ t144) ++ t145) ++ a0_10).size : Int)) : Int).toNat ≤ 281474976710656 then ((some (List.replicate (wrap64 (236 - ((((((((((((t135 ++ t136) ++ t137) ++ t138) ++ t139) ++ t140) ++ t141) ++ t142) ++ t143) ++ t144) ++ t145) ++ a0_10).size : Int)) : Int).toNat 0 : List Int)).bind fun y146 => (if (((((((((((t135 ++ t136) ++ t137) ++ t138) ++ t139) ++ t140) ++ t141) ++ t142) ++ t143) ++ t144) ++ t145) ++ a0_10).size + (strOfNums y146).size ≤ 9223372036854775807 then ((pinfoldref1_Num.f k 1669485411 4).bind fun t149 => (if ((((((((((((t135 ++ t136) ++ t137) ++ t138) ++ t139) ++ t140) ++ t141) ++ t142) ++ t143) ++ t144) ++ t145) ++ a0_10) ++ (strOfNums y146)).size + t149.size ≤ 9223372036854775807 then (if (((((((((((((t135 ++ t136) ++ t137) ++ t138) ++ t139) ++ t140) ++ t141) ++ t142) ++ t143) ++ t144) ++ t145) ++ a0_10) ++ (strOfNums y146)) ++ t149).size + t133.size ≤ 9223372036854775807 then (some ((((((((((((((t135 ++ t136) ++ t137) ++ t138) ++ t139) ++ t140) ++ t141) ++ t142) ++ t143) ++ t144) ++ t145) ++ a0_10) ++ (strOfNums y146)) ++ t149) ++ t133, 0)) else (none)) else (none))) else (none))) else (none)) else (none)) else (none)) else (none))) else (none))) else (none))) else (none)) = some (r1, r2) := H
                  have A19 := Aside0.mk A190
                  clear A190
                  by_cases c20 : ((((((t135 ++ t136) ++ t137) ++ t138) ++ t139) ++ t140) ++ t141).size + t142.size ≤ 9223372036854775807
                  · rw [if_pos c20] at H
                    have c20b0 := eq_true c20
                    have c20b1 : decide (((((((t135 ++ t136) ++ t137) ++ t138) ++ t139) ++ t140) ++ t141).size + t142.size ≤ 9223372036854775807) = true := decide_eq_true c20
                    try have c20b2 : (9223372036854775807 < ((((((t135 ++ t136) ++ t137) ++ t138) ++ t139) ++ t140) ++ t141).size + t142.size) = False := eq_false (Nat.not_lt.2 c20)
                    try (have c20z := c20b2; simp only [ByteArray.size_append] at c20z)
                    replace H := Option.bind_eq_some_iff.mp H
                    obtain ⟨t143, A210, H⟩ := H
                    replace H : (if (((((((t135 ++ t136) ++ t137) ++ t138) ++ t139) ++ t140) ++ t141) ++ t142).size + t143.size ≤ 9223372036854775807 then ((pinfoldref1_Num.f k a0_8 4).bind fun t144 => (if ((((((((t135 ++ t136) ++ t137) ++ t138) ++ t139) ++ t140) ++ t141) ++ t142) ++ t143).size + t144.size ≤ 9223372036854775807 then ((pinfoldref1_Num.f k a0_9 4).bind fun t145 => (if (((((((((t135 ++ t136) ++ t137) ++ t138) ++ t139) ++ t140) ++ t141) ++ t142) ++ t143) ++ t144).size + t145.size ≤ 9223372036854775807 then (if ((((((((((t135 ++ t136) ++ t137) ++ t138) ++ t139) ++ t140) ++ t141) ++ t142) ++ t143) ++ t144) ++ t145).size + a0_10.size ≤ 9223372036854775807 then (if 0 ≤ (wrap64 (236 - ((((((((((((t135 ++ t136) ++ t137) ++ t138) ++ t139) ++ t140) ++ t141) ++ t142) ++ t143) ++ t144) ++ t145) ++ a0_10).size : Int))) then (if (wrap64 (236 - ((((((((((((t135 ++ t136) ++ t137) ++ t138) ++ t139) ++ t140) ++ t141) ++ t142) ++ t143) ++ t144) ++ t145) ++ a0_10).size : Int)) : Int).toNat ≤ 281474976710656 then ((some (List.replicate (wrap64 (236 - ((((((((((((t135 ++ t136) ++ t137) ++ t138) ++ t139) ++ t140) ++ t141) ++ t142) ++ t143) ++ t144) ++ t145) ++ a0_10).size : Int)) : Int).toNat 0 : List Int)).bind fun y146 => (if (((((((((((t135 ++ t136) ++ t137) ++ t138) ++ t139) ++ t140) ++ t141) ++ t142) ++ t143) ++ t144) ++ t145) ++ a0_10).size + (strOfNums y146).size ≤ 9223372036854775807 then ((pinfoldref1_Num.f k 1669485411 4).bind fun t149 => (if ((((((((((((t135 ++ t136) ++ t137) ++ t138) ++ t139) ++ t140) ++ t141) ++ t142) ++ t143) ++ t144) ++ t145) ++ a0_10) ++ (strOfNums y146)).size + t149.size ≤ 9223372036854775807 then (if (((((((((((((t135 ++ t136) ++ t137) ++ t138) ++ t139) ++ t140) ++ t141) ++ t142) ++ t143) ++ t144) ++ t145) ++ a0_10) ++ (strOfNums y146)) ++ t149).size + t133.size ≤ 9223372036854775807 then (some ((((((((((((((t135 ++ t136) ++ t137) ++ t138) ++ t139) ++ t140) ++ t141) ++ t142) ++ t143) ++ t144) ++ t145) ++ a0_10) ++ (strOfNums y146)) ++ t149) ++ t133, 0)) else (none)) else (none))) else (none))) else (none)) else (none)) else (none)) else (none))) else (none))) else (none)) = some (r1, r2) := H
                    have A21 := Aside0.mk A210
                    clear A210
                    by_cases c22 : (((((((t135 ++ t136) ++ t137) ++ t138) ++ t139) ++ t140) ++ t141) ++ t142).size + t143.size ≤ 9223372036854775807
                    · rw [if_pos c22] at H
                      have c22b0 := eq_true c22
                      have c22b1 : decide ((((((((t135 ++ t136) ++ t137) ++ t138) ++ t139) ++ t140) ++ t141) ++ t142).size + t143.size ≤ 9223372036854775807) = true := decide_eq_true c22
                      try have c22b2 : (9223372036854775807 < (((((((t135 ++ t136) ++ t137) ++ t138) ++ t139) ++ t140) ++ t141) ++ t142).size + t143.size) = False := eq_false (Nat.not_lt.2 c22)
                      try (have c22z := c22b2; simp only [ByteArray.size_append] at c22z)
                      replace H := Option.bind_eq_some_iff.mp H
                      obtain ⟨t144, A230, H⟩ := H
                      replace H : (if ((((((((t135 ++ t136) ++ t137) ++ t138) ++ t139) ++ t140) ++ t141) ++ t142) ++ t143).size + t144.size ≤ 9223372036854775807 then ((pinfoldref1_Num.f k a0_9 4).bind fun t145 => (if (((((((((t135 ++ t136) ++ t137) ++ t138) ++ t139) ++ t140) ++ t141) ++ t142) ++ t143) ++ t144).size + t145.size ≤ 9223372036854775807 then (if ((((((((((t135 ++ t136) ++ t137) ++ t138) ++ t139) ++ t140) ++ t141) ++ t142) ++ t143) ++ t144) ++ t145).size + a0_10.size ≤ 9223372036854775807 then (if 0 ≤ (wrap64 (236 - ((((((((((((t135 ++ t136) ++ t137) ++ t138) ++ t139) ++ t140) ++ t141) ++ t142) ++ t143) ++ t144) ++ t145) ++ a0_10).size : Int))) then (if (wrap64 (236 - ((((((((((((t135 ++ t136) ++ t137) ++ t138) ++ t139) ++ t140) ++ t141) ++ t142) ++ t143) ++ t144) ++ t145) ++ a0_10).size : Int)) : Int).toNat ≤ 281474976710656 then ((some (List.replicate (wrap64 (236 - ((((((((((((t135 ++ t136) ++ t137) ++ t138) ++ t139) ++ t140) ++ t141) ++ t142) ++ t143) ++ t144) ++ t145) ++ a0_10).size : Int)) : Int).toNat 0 : List Int)).bind fun y146 => (if (((((((((((t135 ++ t136) ++ t137) ++ t138) ++ t139) ++ t140) ++ t141) ++ t142) ++ t143) ++ t144) ++ t145) ++ a0_10).size + (strOfNums y146).size ≤ 9223372036854775807 then ((pinfoldref1_Num.f k 1669485411 4).bind fun t149 => (if ((((((((((((t135 ++ t136) ++ t137) ++ t138) ++ t139) ++ t140) ++ t141) ++ t142) ++ t143) ++ t144) ++ t145) ++ a0_10) ++ (strOfNums y146)).size + t149.size ≤ 9223372036854775807 then (if (((((((((((((t135 ++ t136) ++ t137) ++ t138) ++ t139) ++ t140) ++ t141) ++ t142) ++ t143) ++ t144) ++ t145) ++ a0_10) ++ (strOfNums y146)) ++ t149).size + t133.size ≤ 9223372036854775807 then (some ((((((((((((((t135 ++ t136) ++ t137) ++ t138) ++ t139) ++ t140) ++ t141) ++ t142) ++ t143) ++ t144) ++ t145) ++ a0_10) ++ (strOfNums y146)) ++ t149) ++ t133, 0)) else (none)) else (none))) else (none))) else (none)) else (none)) else (none)) else (none))) else (none)) = some (r1, r2) := H
                      have A23 := Aside0.mk A230
                      clear A230
                      by_cases c24 : ((((((((t135 ++ t136) ++ t137) ++ t138) ++ t139) ++ t140) ++ t141) ++ t142) ++ t143).size + t144.size ≤ 9223372036854775807
                      · rw [if_pos c24] at H
                        have c24b0 := eq_true c24
                        have c24b1 : decide (((((((((t135 ++ t136) ++ t137) ++ t138) ++ t139) ++ t140) ++ t141) ++ t142) ++ t143).size + t144.size ≤ 9223372036854775807) = true := decide_eq_true c24
                        try have c24b2 : (9223372036854775807 < ((((((((t135 ++ t136) ++ t137) ++ t138) ++ t139) ++ t140) ++ t141) ++ t142) ++ t143).size + t144.size) = False := eq_false (Nat.not_lt.2 c24)
                        try (have c24z := c24b2; simp only [ByteArray.size_append] at c24z)
                        replace H := Option.bind_eq_some_iff.mp H
                        obtain ⟨t145, A250, H⟩ := H
                        replace H : (if (((((((((t135 ++ t136) ++ t137) ++ t138) ++ t139) ++ t140) ++ t141) ++ t142) ++ t143) ++ t144).size + t145.size ≤ 9223372036854775807 then (if ((((((((((t135 ++ t136) ++ t137) ++ t138) ++ t139) ++ t140) ++ t141) ++ t142) ++ t143) ++ t144) ++ t145).size + a0_10.size ≤ 9223372036854775807 then (if 0 ≤ (wrap64 (236 - ((((((((((((t135 ++ t136) ++ t137) ++ t138) ++ t139) ++ t140) ++ t141) ++ t142) ++ t143) ++ t144) ++ t145) ++ a0_10).size : Int))) then (if (wrap64 (236 - ((((((((((((t135 ++ t136) ++ t137) ++ t138) ++ t139) ++ t140) ++ t141) ++ t142) ++ t143) ++ t144) ++ t145) ++ a0_10).size : Int)) : Int).toNat ≤ 281474976710656 then ((some (List.replicate (wrap64 (236 - ((((((((((((t135 ++ t136) ++ t137) ++ t138) ++ t139) ++ t140) ++ t141) ++ t142) ++ t143) ++ t144) ++ t145) ++ a0_10).size : Int)) : Int).toNat 0 : List Int)).bind fun y146 => (if (((((((((((t135 ++ t136) ++ t137) ++ t138) ++ t139) ++ t140) ++ t141) ++ t142) ++ t143) ++ t144) ++ t145) ++ a0_10).size + (strOfNums y146).size ≤ 9223372036854775807 then ((pinfoldref1_Num.f k 1669485411 4).bind fun t149 => (if ((((((((((((t135 ++ t136) ++ t137) ++ t138) ++ t139) ++ t140) ++ t141) ++ t142) ++ t143) ++ t144) ++ t145) ++ a0_10) ++ (strOfNums y146)).size + t149.size ≤ 9223372036854775807 then (if (((((((((((((t135 ++ t136) ++ t137) ++ t138) ++ t139) ++ t140) ++ t141) ++ t142) ++ t143) ++ t144) ++ t145) ++ a0_10) ++ (strOfNums y146)) ++ t149).size + t133.size ≤ 9223372036854775807 then (some ((((((((((((((t135 ++ t136) ++ t137) ++ t138) ++ t139) ++ t140) ++ t141) ++ t142) ++ t143) ++ t144) ++ t145) ++ a0_10) ++ (strOfNums y146)) ++ t149) ++ t133, 0)) else (none)) else (none))) else (none))) else (none)) else (none)) else (none)) else (none)) = some (r1, r2) := H
                        have A25 := Aside0.mk A250
                        clear A250
                        by_cases c26 : (((((((((t135 ++ t136) ++ t137) ++ t138) ++ t139) ++ t140) ++ t141) ++ t142) ++ t143) ++ t144).size + t145.size ≤ 9223372036854775807
                        · rw [if_pos c26] at H
                          have c26b0 := eq_true c26
                          have c26b1 : decide ((((((((((t135 ++ t136) ++ t137) ++ t138) ++ t139) ++ t140) ++ t141) ++ t142) ++ t143) ++ t144).size + t145.size ≤ 9223372036854775807) = true := decide_eq_true c26
                          try have c26b2 : (9223372036854775807 < (((((((((t135 ++ t136) ++ t137) ++ t138) ++ t139) ++ t140) ++ t141) ++ t142) ++ t143) ++ t144).size + t145.size) = False := eq_false (Nat.not_lt.2 c26)
                          try (have c26z := c26b2; simp only [ByteArray.size_append] at c26z)
                          by_cases c27 : ((((((((((t135 ++ t136) ++ t137) ++ t138) ++ t139) ++ t140) ++ t141) ++ t142) ++ t143) ++ t144) ++ t145).size + a0_10.size ≤ 9223372036854775807
                          · rw [if_pos c27] at H
                            have c27b0 := eq_true c27
                            have c27b1 : decide (((((((((((t135 ++ t136) ++ t137) ++ t138) ++ t139) ++ t140) ++ t141) ++ t142) ++ t143) ++ t144) ++ t145).size + a0_10.size ≤ 9223372036854775807) = true := decide_eq_true c27
                            try have c27b2 : (9223372036854775807 < ((((((((((t135 ++ t136) ++ t137) ++ t138) ++ t139) ++ t140) ++ t141) ++ t142) ++ t143) ++ t144) ++ t145).size + a0_10.size) = False := eq_false (Nat.not_lt.2 c27)
                            try (have c27z := c27b2; simp only [ByteArray.size_append] at c27z)
                            obtain ⟨ji28, hji28⟩ : ∃ j_ : Int, (wrap64 (236 - ((((((((((((t135 ++ t136) ++ t137) ++ t138) ++ t139) ++ t140) ++ t141) ++ t142) ++ t143) ++ t144) ++ t145) ++ a0_10).size : Int))) = j_ := ⟨_, rfl⟩
                            replace H : (if 0 ≤ (ji28) then (if (ji28 : Int).toNat ≤ 281474976710656 then ((some (List.replicate (ji28 : Int).toNat 0 : List Int)).bind fun y146 => (if (((((((((((t135 ++ t136) ++ t137) ++ t138) ++ t139) ++ t140) ++ t141) ++ t142) ++ t143) ++ t144) ++ t145) ++ a0_10).size + (strOfNums y146).size ≤ 9223372036854775807 then ((pinfoldref1_Num.f k 1669485411 4).bind fun t149 => (if ((((((((((((t135 ++ t136) ++ t137) ++ t138) ++ t139) ++ t140) ++ t141) ++ t142) ++ t143) ++ t144) ++ t145) ++ a0_10) ++ (strOfNums y146)).size + t149.size ≤ 9223372036854775807 then (if (((((((((((((t135 ++ t136) ++ t137) ++ t138) ++ t139) ++ t140) ++ t141) ++ t142) ++ t143) ++ t144) ++ t145) ++ a0_10) ++ (strOfNums y146)) ++ t149).size + t133.size ≤ 9223372036854775807 then (some ((((((((((((((t135 ++ t136) ++ t137) ++ t138) ++ t139) ++ t140) ++ t141) ++ t142) ++ t143) ++ t144) ++ t145) ++ a0_10) ++ (strOfNums y146)) ++ t149) ++ t133, 0)) else (none)) else (none))) else (none))) else (none)) else (none)) = some (r1, r2) := by first | (rw [hji28] at H; exact H) | (simp only [hji28] at H ⊢; exact H)
                            (try rw [hji28] at A2)
                            (try rw [hji28] at A4)
                            (try rw [hji28] at A6)
                            (try rw [hji28] at A7)
                            (try rw [hji28] at A9)
                            (try rw [hji28] at A11)
                            (try rw [hji28] at A13)
                            (try rw [hji28] at A15)
                            (try rw [hji28] at A17)
                            (try rw [hji28] at A19)
                            (try rw [hji28] at A21)
                            (try rw [hji28] at A23)
                            (try rw [hji28] at A25)
                            have hji28w : (IntKind.i64.wrap (236 - ((((((((((((t135 ++ t136) ++ t137) ++ t138) ++ t139) ++ t140) ++ t141) ++ t142) ++ t143) ++ t144) ++ t145) ++ a0_10).size : Int))) = ji28 := (i64_w _).trans hji28
                            try (have hji28z := hji28w; simp only [ByteArray.size_append, Int.natCast_add] at hji28z)
                            by_cases c29 : 0 ≤ (ji28)
                            · rw [if_pos c29] at H
                              have c29b0 := eq_true c29
                              have c29b1 : decide (0 ≤ (ji28)) = true := decide_eq_true c29
                              clear c29
                              by_cases c30 : (ji28 : Int).toNat ≤ 281474976710656
                              · rw [if_pos c30] at H
                                have c30b0 := eq_true c30
                                have c30b1 : decide ((ji28 : Int).toNat ≤ 281474976710656) = true := decide_eq_true c30
                                clear c30
                                obtain ⟨y146, hy146⟩ : ∃ y_ : List Int, y_ = (List.replicate (ji28 : Int).toNat 0) := ⟨_, rfl⟩
                                replace H : (if (((((((((((t135 ++ t136) ++ t137) ++ t138) ++ t139) ++ t140) ++ t141) ++ t142) ++ t143) ++ t144) ++ t145) ++ a0_10).size + (strOfNums y146).size ≤ 9223372036854775807 then ((pinfoldref1_Num.f k 1669485411 4).bind fun t149 => (if ((((((((((((t135 ++ t136) ++ t137) ++ t138) ++ t139) ++ t140) ++ t141) ++ t142) ++ t143) ++ t144) ++ t145) ++ a0_10) ++ (strOfNums y146)).size + t149.size ≤ 9223372036854775807 then (if (((((((((((((t135 ++ t136) ++ t137) ++ t138) ++ t139) ++ t140) ++ t141) ++ t142) ++ t143) ++ t144) ++ t145) ++ a0_10) ++ (strOfNums y146)) ++ t149).size + t133.size ≤ 9223372036854775807 then (some ((((((((((((((t135 ++ t136) ++ t137) ++ t138) ++ t139) ++ t140) ++ t141) ++ t142) ++ t143) ++ t144) ++ t145) ++ a0_10) ++ (strOfNums y146)) ++ t149) ++ t133, 0)) else (none)) else (none))) else (none)) = some (r1, r2) := by first | (rw [hy146]; with_reducible exact H) | (have H2_ := (Option.bind_some _ _).symm.trans H; rw [hy146]; with_reducible exact H2_) | (have H2_ := (Option.bind_some _ _).symm.trans H; with_reducible exact H2_) | with_reducible exact H | (rw [hy146]; exact H) | exact H
                                have Ny146 := Aside0.mk hy146
                                clear hy146
                                by_cases c31 : (((((((((((t135 ++ t136) ++ t137) ++ t138) ++ t139) ++ t140) ++ t141) ++ t142) ++ t143) ++ t144) ++ t145) ++ a0_10).size + (strOfNums y146).size ≤ 9223372036854775807
                                · rw [if_pos c31] at H
                                  have c31b0 := eq_true c31
                                  have c31b1 : decide ((((((((((((t135 ++ t136) ++ t137) ++ t138) ++ t139) ++ t140) ++ t141) ++ t142) ++ t143) ++ t144) ++ t145) ++ a0_10).size + (strOfNums y146).size ≤ 9223372036854775807) = true := decide_eq_true c31
                                  try have c31b2 : (9223372036854775807 < (((((((((((t135 ++ t136) ++ t137) ++ t138) ++ t139) ++ t140) ++ t141) ++ t142) ++ t143) ++ t144) ++ t145) ++ a0_10).size + (strOfNums y146).size) = False := eq_false (Nat.not_lt.2 c31)
                                  try (have c31z := c31b2; simp only [ByteArray.size_append] at c31z)
                                  replace H := Option.bind_eq_some_iff.mp H
                                  obtain ⟨t149, A320, H⟩ := H
                                  replace H : (if ((((((((((((t135 ++ t136) ++ t137) ++ t138) ++ t139) ++ t140) ++ t141) ++ t142) ++ t143) ++ t144) ++ t145) ++ a0_10) ++ (strOfNums y146)).size + t149.size ≤ 9223372036854775807 then (if (((((((((((((t135 ++ t136) ++ t137) ++ t138) ++ t139) ++ t140) ++ t141) ++ t142) ++ t143) ++ t144) ++ t145) ++ a0_10) ++ (strOfNums y146)) ++ t149).size + t133.size ≤ 9223372036854775807 then (some ((((((((((((((t135 ++ t136) ++ t137) ++ t138) ++ t139) ++ t140) ++ t141) ++ t142) ++ t143) ++ t144) ++ t145) ++ a0_10) ++ (strOfNums y146)) ++ t149) ++ t133, 0)) else (none)) else (none)) = some (r1, r2) := H
                                  have A32 := Aside0.mk A320
                                  clear A320
                                  by_cases c33 : ((((((((((((t135 ++ t136) ++ t137) ++ t138) ++ t139) ++ t140) ++ t141) ++ t142) ++ t143) ++ t144) ++ t145) ++ a0_10) ++ (strOfNums y146)).size + t149.size ≤ 9223372036854775807
                                  · rw [if_pos c33] at H
                                    have c33b0 := eq_true c33
                                    have c33b1 : decide (((((((((((((t135 ++ t136) ++ t137) ++ t138) ++ t139) ++ t140) ++ t141) ++ t142) ++ t143) ++ t144) ++ t145) ++ a0_10) ++ (strOfNums y146)).size + t149.size ≤ 9223372036854775807) = true := decide_eq_true c33
                                    try have c33b2 : (9223372036854775807 < ((((((((((((t135 ++ t136) ++ t137) ++ t138) ++ t139) ++ t140) ++ t141) ++ t142) ++ t143) ++ t144) ++ t145) ++ a0_10) ++ (strOfNums y146)).size + t149.size) = False := eq_false (Nat.not_lt.2 c33)
                                    try (have c33z := c33b2; simp only [ByteArray.size_append] at c33z)
                                    by_cases c34 : (((((((((((((t135 ++ t136) ++ t137) ++ t138) ++ t139) ++ t140) ++ t141) ++ t142) ++ t143) ++ t144) ++ t145) ++ a0_10) ++ (strOfNums y146)) ++ t149).size + t133.size ≤ 9223372036854775807
                                    · rw [if_pos c34] at H
                                      have c34b0 := eq_true c34
                                      have c34b1 : decide ((((((((((((((t135 ++ t136) ++ t137) ++ t138) ++ t139) ++ t140) ++ t141) ++ t142) ++ t143) ++ t144) ++ t145) ++ a0_10) ++ (strOfNums y146)) ++ t149).size + t133.size ≤ 9223372036854775807) = true := decide_eq_true c34
                                      try have c34b2 : (9223372036854775807 < (((((((((((((t135 ++ t136) ++ t137) ++ t138) ++ t139) ++ t140) ++ t141) ++ t142) ++ t143) ++ t144) ++ t145) ++ a0_10) ++ (strOfNums y146)) ++ t149).size + t133.size) = False := eq_false (Nat.not_lt.2 c34)
                                      try (have c34z := c34b2; simp only [ByteArray.size_append] at c34z)
                                      simp only [Option.some.injEq, Prod.mk.injEq] at H
                                      obtain ⟨rfl, rfl⟩ := H
                                      go_enter Try.func13, Try.ntmps13
                                      try go_wp2_with (first | ((with_reducible refine gate_dst (N := 1) rfl ?_); refine box_event ?hg (N := 1) ?hd (cs := #[.int .i64 a0_0, .int .i64 a0_1, .int .i64 a0_2, .int .i64 a0_3, .int .i64 a0_4, .int .i64 a0_5, .int .i64 a0_6, .int .i64 a0_7, .int .i64 a0_8, .int .i64 a0_9, .string a0_10, .slice A0_11 l0_11.length c0_11]) (t := 24) ?hr ?_; (case hd => rfl); (case hg => rfl); (case hr => first | (go_simp; done) | (go_simp; rfl)); intro gb131 hg w35 hbox hb; have n0_ := Aside0.mk (below_step (by repeat (first | (with_reducible first | exact HB.out | apply below_alloc | apply pw_below_drewN | apply below_drew1) | exact HB.out)) hb); have n1_ := Aside0.mk (hbox); have n2_ := Aside0.mk ((by rw [hg]; exact (below_size (by repeat (first | (with_reducible first | exact HB.out | apply below_alloc | apply pw_below_drewN | apply below_drew1) | exact HB.out))) : w.heap.size ≤ gb131)); have n3_ := Aside0.mk ((by rw [hg]; exact (below_size (by repeat (first | (with_reducible first | exact HB.out | apply below_alloc | apply pw_below_drewN | apply below_drew1) | exact HB.out))) : w.heap.size ≤ gb131)); clear HB; have HB := n0_; have BK131 := n1_; have GW131 := n2_; have GE131 := n3_; clear n0_ n1_ n2_ n3_; clear hb hbox hg; have hcz36_0 : w35.cell? ⟨gb131, 0, none⟩ = some (.int .i64 a0_0) := (blk_cell BK131.out 0).trans rfl; have hcz36_1 : w35.cell? ⟨gb131, 1, none⟩ = some (.int .i64 a0_1) := (blk_cell BK131.out 1).trans rfl; have hcz36_2 : w35.cell? ⟨gb131, 2, none⟩ = some (.int .i64 a0_2) := (blk_cell BK131.out 2).trans rfl; have hcz36_3 : w35.cell? ⟨gb131, 3, none⟩ = some (.int .i64 a0_3) := (blk_cell BK131.out 3).trans rfl; have hcz36_4 : w35.cell? ⟨gb131, 4, none⟩ = some (.int .i64 a0_4) := (blk_cell BK131.out 4).trans rfl; have hcz36_5 : w35.cell? ⟨gb131, 5, none⟩ = some (.int .i64 a0_5) := (blk_cell BK131.out 5).trans rfl; have hcz36_6 : w35.cell? ⟨gb131, 6, none⟩ = some (.int .i64 a0_6) := (blk_cell BK131.out 6).trans rfl; have hcz36_7 : w35.cell? ⟨gb131, 7, none⟩ = some (.int .i64 a0_7) := (blk_cell BK131.out 7).trans rfl; have hcz36_8 : w35.cell? ⟨gb131, 8, none⟩ = some (.int .i64 a0_8) := (blk_cell BK131.out 8).trans rfl; have hcz36_9 : w35.cell? ⟨gb131, 9, none⟩ = some (.int .i64 a0_9) := (blk_cell BK131.out 9).trans rfl; have hcz36_10 : w35.cell? ⟨gb131, 10, none⟩ = some (.string a0_10) := (blk_cell BK131.out 10).trans rfl; have hcz36_11 : w35.cell? ⟨gb131, 11, none⟩ = some (.slice A0_11 l0_11.length c0_11) := (blk_cell BK131.out 11).trans rfl; have hfz36_0 := blk_frozen BK131.out 0; have hfz36_1 := blk_frozen BK131.out 1; have hfz36_2 := blk_frozen BK131.out 2; have hfz36_3 := blk_frozen BK131.out 3; have hfz36_4 := blk_frozen BK131.out 4; have hfz36_5 := blk_frozen BK131.out 5; have hfz36_6 := blk_frozen BK131.out 6; have hfz36_7 := blk_frozen BK131.out 7; have hfz36_8 := blk_frozen BK131.out 8; have hfz36_9 := blk_frozen BK131.out 9; have hfz36_10 := blk_frozen BK131.out 10; have hfz36_11 := blk_frozen BK131.out 11) | ((with_reducible refine gate_callee (f := 19) rfl ?_); refine goesL_ (some 8) rfl rfl Try.func19 (by kernel_rfl) rfl #[.agg #[.int .i64 a0_0, .int .i64 a0_1, .int .i64 a0_2, .int .i64 a0_3, .int .i64 a0_4, .int .i64 a0_5, .int .i64 a0_6, .int .i64 a0_7, .int .i64 a0_8, .int .i64 a0_9, .string a0_10, .slice A0_11 l0_11.length c0_11]] rfl (by (try simp only [List.map_toArray, List.map_cons, List.map_nil]); first | done | rfl | (simp only [List.length_drop, List.length_take]; rfl)) ?_; (with_reducible refine (pinfoldref1_PacketMay.calls a0_0 a0_1 a0_2 a0_3 a0_4 a0_5 a0_6 a0_7 a0_8 a0_9 a0_10 _ _ l0_11 true _ ?side1 ?side2 A2.out).mono ?_); (case side1 => repeat (first | exact (Kd.C_below HR0_11.out HB.out) | (with_reducible refine Kd.C_alloc ?_ _) | (with_reducible refine Kd.C_drewN ?_ _) | (with_reducible refine Kd.C_drew ?_))); (case side2 => exact HC0_11.out); rintro e w37 ⟨rfl, hb⟩; refine ⟨_, rfl, ?_⟩; have n0_ := Aside0.mk (blk_below (g := gb131) (o := .cells #[.int .i64 a0_0, .int .i64 a0_1, .int .i64 a0_2, .int .i64 a0_3, .int .i64 a0_4, .int .i64 a0_5, .int .i64 a0_6, .int .i64 a0_7, .int .i64 a0_8, .int .i64 a0_9, .string a0_10, .slice A0_11 l0_11.length c0_11] 24 (0, 0)) (by (with_reducible repeat (first | refine blk_drewN ?_ _ | refine blk_drew ?_ | refine blk_alloc ?_ _)); exact BK131.out) hb); have n1_ := Aside0.mk (below_step (by repeat (first | (with_reducible first | exact HB.out | apply below_alloc | apply pw_below_drewN | apply below_drew1 | refine below_set ?_ GE131.out) | exact HB.out)) hb); clear BK131; clear HB; have BK131 := n0_; have HB := n1_; clear n0_ n1_; (try clear hb); (try clear hb2); (try clear hk); (try clear hi); have hcz38_0 : w37.cell? ⟨gb131, 0, none⟩ = some (.int .i64 a0_0) := (blk_cell BK131.out 0).trans rfl; have hcz38_1 : w37.cell? ⟨gb131, 1, none⟩ = some (.int .i64 a0_1) := (blk_cell BK131.out 1).trans rfl; have hcz38_2 : w37.cell? ⟨gb131, 2, none⟩ = some (.int .i64 a0_2) := (blk_cell BK131.out 2).trans rfl; have hcz38_3 : w37.cell? ⟨gb131, 3, none⟩ = some (.int .i64 a0_3) := (blk_cell BK131.out 3).trans rfl; have hcz38_4 : w37.cell? ⟨gb131, 4, none⟩ = some (.int .i64 a0_4) := (blk_cell BK131.out 4).trans rfl; have hcz38_5 : w37.cell? ⟨gb131, 5, none⟩ = some (.int .i64 a0_5) := (blk_cell BK131.out 5).trans rfl; have hcz38_6 : w37.cell? ⟨gb131, 6, none⟩ = some (.int .i64 a0_6) := (blk_cell BK131.out 6).trans rfl; have hcz38_7 : w37.cell? ⟨gb131, 7, none⟩ = some (.int .i64 a0_7) := (blk_cell BK131.out 7).trans rfl; have hcz38_8 : w37.cell? ⟨gb131, 8, none⟩ = some (.int .i64 a0_8) := (blk_cell BK131.out 8).trans rfl; have hcz38_9 : w37.cell? ⟨gb131, 9, none⟩ = some (.int .i64 a0_9) := (blk_cell BK131.out 9).trans rfl; have hcz38_10 : w37.cell? ⟨gb131, 10, none⟩ = some (.string a0_10) := (blk_cell BK131.out 10).trans rfl; have hcz38_11 : w37.cell? ⟨gb131, 11, none⟩ = some (.slice A0_11 l0_11.length c0_11) := (blk_cell BK131.out 11).trans rfl; have hfz38_0 := blk_frozen BK131.out 0; have hfz38_1 := blk_frozen BK131.out 1; have hfz38_2 := blk_frozen BK131.out 2; have hfz38_3 := blk_frozen BK131.out 3; have hfz38_4 := blk_frozen BK131.out 4; have hfz38_5 := blk_frozen BK131.out 5; have hfz38_6 := blk_frozen BK131.out 6; have hfz38_7 := blk_frozen BK131.out 7; have hfz38_8 := blk_frozen BK131.out 8; have hfz38_9 := blk_frozen BK131.out 9; have hfz38_10 := blk_frozen BK131.out 10; have hfz38_11 := blk_frozen BK131.out 11) | ((with_reducible refine gate_callee (f := 40) rfl ?_); refine goesL_ (some 13) rfl rfl Try.func40 (by kernel_rfl) rfl #[.slice A0_11 l0_11.length c0_11] rfl (by (try simp only [List.map_toArray, List.map_cons, List.map_nil]); first | done | rfl | (simp only [List.length_drop, List.length_take]; rfl)) ?_; (with_reducible refine (pinfoldref1_PutOpts.calls _ _ l0_11 t133 t134 _ ?side1 ?side2 A4.out).mono ?_); (case side1 => repeat (first | exact (Kd.C_below HR0_11.out HB.out) | (with_reducible refine Kd.C_alloc ?_ _) | (with_reducible refine Kd.C_drewN ?_ _) | (with_reducible refine Kd.C_drew ?_))); (case side2 => exact HC0_11.out); rintro e w39 ⟨rfl, hb⟩; refine ⟨_, rfl, ?_⟩; have n0_ := Aside0.mk (blk_below (g := gb131) (o := .cells #[.int .i64 a0_0, .int .i64 a0_1, .int .i64 a0_2, .int .i64 a0_3, .int .i64 a0_4, .int .i64 a0_5, .int .i64 a0_6, .int .i64 a0_7, .int .i64 a0_8, .int .i64 a0_9, .string a0_10, .slice A0_11 l0_11.length c0_11] 24 (0, 0)) (by (with_reducible repeat (first | refine blk_drewN ?_ _ | refine blk_drew ?_ | refine blk_alloc ?_ _)); exact BK131.out) hb); have n1_ := Aside0.mk (below_step (by repeat (first | (with_reducible first | exact HB.out | apply below_alloc | apply pw_below_drewN | apply below_drew1 | refine below_set ?_ GE131.out) | exact HB.out)) hb); clear BK131; clear HB; have BK131 := n0_; have HB := n1_; clear n0_ n1_; (try clear hb); (try clear hb2); (try clear hk); (try clear hi)))
                                      have n0_ := Aside0.mk (blk_drew BK131.out)
                                      have n1_ := Aside0.mk (below_drew1 HB.out)
                                      clear BK131
                                      clear HB
                                      have BK131 := n0_
                                      have HB := n1_
                                      clear n0_ n1_
                                      refine start_ (n := 48) (S := fun w' => w'.cell? ⟨gb131, 0, none⟩ = some (.int .i64 a0_0) ∧ w'.cell? ⟨gb131, 1, none⟩ = some (.int .i64 a0_1) ∧ w'.cell? ⟨gb131, 2, none⟩ = some (.int .i64 a0_2) ∧ w'.cell? ⟨gb131, 3, none⟩ = some (.int .i64 a0_3) ∧ w'.cell? ⟨gb131, 4, none⟩ = some (.int .i64 a0_4) ∧ w'.cell? ⟨gb131, 5, none⟩ = some (.int .i64 a0_5) ∧ w'.cell? ⟨gb131, 6, none⟩ = some (.int .i64 a0_6) ∧ w'.cell? ⟨gb131, 7, none⟩ = some (.int .i64 a0_7) ∧ w'.cell? ⟨gb131, 8, none⟩ = some (.int .i64 a0_8) ∧ w'.cell? ⟨gb131, 9, none⟩ = some (.int .i64 a0_9) ∧ w'.cell? ⟨gb131, 10, none⟩ = some (.string a0_10) ∧ w'.cell? ⟨gb131, 11, none⟩ = some (.slice A0_11 l0_11.length c0_11)) (ds := []) #[false, false, false, false, false, false, false, false, false, false, false, false, false, false, false, false, false, false, false, false, false, false, false, false, false, false, false, false, false, false, false, false, false, false, false, false, false, false, false, false, false, false, false, false, false, false, false, false] (by kernel_rfl) rfl rfl ⟨(blk_cell BK131.out 0).trans rfl, (blk_cell BK131.out 1).trans rfl, (blk_cell BK131.out 2).trans rfl, (blk_cell BK131.out 3).trans rfl, (blk_cell BK131.out 4).trans rfl, (blk_cell BK131.out 5).trans rfl, (blk_cell BK131.out 6).trans rfl, (blk_cell BK131.out 7).trans rfl, (blk_cell BK131.out 8).trans rfl, (blk_cell BK131.out 9).trans rfl, (blk_cell BK131.out 10).trans rfl, (blk_cell BK131.out 11).trans rfl⟩ (fun hHeld => ?_); refine with_tabW pinfoldref1_PutPacket.tab6 pinfoldref1_PutPacket.bits6 (fun HT_ HW_ => ?_)
                                      generalize w39.drew = w40 at BK131 HB hHeld ⊢
                                      refine pure_ (i := 0) (N := some 18) (v := ?_) (a' := ?_) #[true, false, false, false, false, false, false, false, false, false, false, false, false, false, false, false, false, false, false, false, false, false, false, false, false, false, false, false, false, false, false, false, false, false, false, false, false, false, false, false, false, false, false, false, false, false, false, false] rfl rfl (any_of HT_.out (by kernel_rfl)) (fun _ _ _ h => h) (Or.inl ⟨by rfl, ?_⟩) ?_ ?_
                                      rotate_left
                                      · intro w'
                                        go_simp
                                        with_reducible rfl
                                      rotate_left
                                      · simp only [Act.put, List.setIfInBounds_toArray, List.set_cons_zero, List.set_cons_succ, i64_w, i32_w]
                                        rfl
                                      refine pure_ (i := 3) (N := some 21) (v := ?_) (a' := ?_) #[true, false, false, true, false, false, false, false, false, false, false, false, false, false, false, false, false, false, false, false, false, false, false, false, false, false, false, false, false, false, false, false, false, false, false, false, false, false, false, false, false, false, false, false, false, false, false, false] rfl rfl (any_of HT_.out (by kernel_rfl)) (fun _ _ _ h => h) (Or.inl ⟨by rfl, ?_⟩) ?_ ?_
                                      rotate_left
                                      · intro w'
                                        go_simp
                                        with_reducible rfl
                                      rotate_left
                                      · simp only [Act.put, List.setIfInBounds_toArray, List.set_cons_zero, List.set_cons_succ, i64_w, i32_w]
                                        rfl
                                      refine pure_ (i := 7) (N := some 25) (v := ?_) (a' := ?_) #[true, false, false, true, false, false, false, true, false, false, false, false, false, false, false, false, false, false, false, false, false, false, false, false, false, false, false, false, false, false, false, false, false, false, false, false, false, false, false, false, false, false, false, false, false, false, false, false] rfl rfl (any_of HT_.out (by kernel_rfl)) (fun _ _ _ h => h) (Or.inl ⟨by rfl, ?_⟩) ?_ ?_
                                      rotate_left
                                      · intro w'
                                        go_simp
                                        with_reducible rfl
                                      rotate_left
                                      · simp only [Act.put, List.setIfInBounds_toArray, List.set_cons_zero, List.set_cons_succ, i64_w, i32_w]
                                        rfl
                                      refine pure_ (i := 12) (N := some 30) (v := ?_) (a' := ?_) #[true, false, false, true, false, false, false, true, false, false, false, false, true, false, false, false, false, false, false, false, false, false, false, false, false, false, false, false, false, false, false, false, false, false, false, false, false, false, false, false, false, false, false, false, false, false, false, false] rfl rfl (any_of HT_.out (by kernel_rfl)) (fun _ _ _ h => h) (Or.inl ⟨by rfl, ?_⟩) ?_ ?_
                                      rotate_left
                                      · intro w'
                                        go_simp
                                        with_reducible rfl
                                      rotate_left
                                      · simp only [Act.put, List.setIfInBounds_toArray, List.set_cons_zero, List.set_cons_succ, i64_w, i32_w]
                                        rfl
                                      refine pure_ (i := 16) (N := some 34) (v := ?_) (a' := ?_) #[true, false, false, true, false, false, false, true, false, false, false, false, true, false, false, false, true, false, false, false, false, false, false, false, false, false, false, false, false, false, false, false, false, false, false, false, false, false, false, false, false, false, false, false, false, false, false, false] rfl rfl (any_of HT_.out (by kernel_rfl)) (fun _ _ _ h => h) (Or.inl ⟨by rfl, ?_⟩) ?_ ?_
                                      rotate_left
                                      · intro w'
                                        go_simp
                                        with_reducible rfl
                                      rotate_left
                                      · simp only [Act.put, List.setIfInBounds_toArray, List.set_cons_zero, List.set_cons_succ, i64_w, i32_w]
                                        rfl
                                      refine pure_ (i := 20) (N := some 38) (v := ?_) (a' := ?_) #[true, false, false, true, false, false, false, true, false, false, false, false, true, false, false, false, true, false, false, false, true, false, false, false, false, false, false, false, false, false, false, false, false, false, false, false, false, false, false, false, false, false, false, false, false, false, false, false] rfl rfl (any_of HT_.out (by kernel_rfl)) (fun _ _ _ h => h) (Or.inl ⟨by rfl, ?_⟩) ?_ ?_
                                      rotate_left
                                      · intro w'
                                        go_simp
                                        with_reducible rfl
                                      rotate_left
                                      · simp only [Act.put, List.setIfInBounds_toArray, List.set_cons_zero, List.set_cons_succ, i64_w, i32_w]
                                        rfl
                                      refine pure_ (i := 24) (N := some 42) (v := ?_) (a' := ?_) #[true, false, false, true, false, false, false, true, false, false, false, false, true, false, false, false, true, false, false, false, true, false, false, false, true, false, false, false, false, false, false, false, false, false, false, false, false, false, false, false, false, false, false, false, false, false, false, false] rfl rfl (any_of HT_.out (by kernel_rfl)) (fun _ _ _ h => h) (Or.inl ⟨by rfl, ?_⟩) ?_ ?_
                                      rotate_left
                                      · intro w'
                                        go_simp
                                        with_reducible rfl
                                      rotate_left
                                      · simp only [Act.put, List.setIfInBounds_toArray, List.set_cons_zero, List.set_cons_succ, i64_w, i32_w]
                                        rfl
                                      refine pure_ (i := 28) (N := some 46) (v := ?_) (a' := ?_) #[true, false, false, true, false, false, false, true, false, false, false, false, true, false, false, false, true, false, false, false, true, false, false, false, true, false, false, false, true, false, false, false, false, false, false, false, false, false, false, false, false, false, false, false, false, false, false, false] rfl rfl (any_of HT_.out (by kernel_rfl)) (fun _ _ _ h => h) (Or.inl ⟨by rfl, ?_⟩) ?_ ?_
                                      rotate_left
                                      · intro w'
                                        go_simp
                                        with_reducible rfl
                                      rotate_left
                                      · simp only [Act.put, List.setIfInBounds_toArray, List.set_cons_zero, List.set_cons_succ, i64_w, i32_w]
                                        rfl
                                      refine pure_ (i := 32) (N := some 50) (v := ?_) (a' := ?_) #[true, false, false, true, false, false, false, true, false, false, false, false, true, false, false, false, true, false, false, false, true, false, false, false, true, false, false, false, true, false, false, false, true, false, false, false, false, false, false, false, false, false, false, false, false, false, false, false] rfl rfl (any_of HT_.out (by kernel_rfl)) (fun _ _ _ h => h) (Or.inl ⟨by rfl, ?_⟩) ?_ ?_
                                      rotate_left
                                      · intro w'
                                        go_simp
                                        with_reducible rfl
                                      rotate_left
                                      · simp only [Act.put, List.setIfInBounds_toArray, List.set_cons_zero, List.set_cons_succ, i64_w, i32_w]
                                        rfl
                                      refine pure_ (i := 36) (N := some 54) (v := ?_) (a' := ?_) #[true, false, false, true, false, false, false, true, false, false, false, false, true, false, false, false, true, false, false, false, true, false, false, false, true, false, false, false, true, false, false, false, true, false, false, false, true, false, false, false, false, false, false, false, false, false, false, false] rfl rfl (any_of HT_.out (by kernel_rfl)) (fun _ _ _ h => h) (Or.inl ⟨by rfl, ?_⟩) ?_ ?_
                                      rotate_left
                                      · intro w'
                                        go_simp
                                        with_reducible rfl
                                      rotate_left
                                      · simp only [Act.put, List.setIfInBounds_toArray, List.set_cons_zero, List.set_cons_succ, i64_w, i32_w]
                                        rfl
                                      refine pure_ (i := 40) (N := some 58) (v := ?_) (a' := ?_) #[true, false, false, true, false, false, false, true, false, false, false, false, true, false, false, false, true, false, false, false, true, false, false, false, true, false, false, false, true, false, false, false, true, false, false, false, true, false, false, false, true, false, false, false, false, false, false, false] rfl rfl (any_of HT_.out (by kernel_rfl)) (fun _ _ _ h => h) (Or.inl ⟨by rfl, ?_⟩) ?_ ?_
                                      rotate_left
                                      · intro w'
                                        go_simp
                                        with_reducible rfl
                                      rotate_left
                                      · simp only [Act.put, List.setIfInBounds_toArray, List.set_cons_zero, List.set_cons_succ, i64_w, i32_w]
                                        rfl
                                      refine pure_ (i := 44) (N := some 62) (v := ?_) (a' := ?_) #[true, false, false, true, false, false, false, true, false, false, false, false, true, false, false, false, true, false, false, false, true, false, false, false, true, false, false, false, true, false, false, false, true, false, false, false, true, false, false, false, true, false, false, false, true, false, false, false] rfl rfl (any_of HT_.out (by kernel_rfl)) (fun _ _ _ h => h) (Or.inl ⟨by rfl, ?_⟩) ?_ ?_
                                      rotate_left
                                      · intro w'
                                        go_simp
                                        with_reducible rfl
                                      rotate_left
                                      · simp only [Act.put, List.setIfInBounds_toArray, List.set_cons_zero, List.set_cons_succ, i64_w, i32_w]
                                        rfl
                                      refine take_ (i := 1) (N := some 19) (v := ?_) (a' := ?_) #[true, true, false, true, false, false, false, true, false, false, false, false, true, false, false, false, true, false, false, false, true, false, false, false, true, false, false, false, true, false, false, false, true, false, false, false, true, false, false, false, true, false, false, false, true, false, false, false] rfl rfl (take_ofW HT_.out HW_.out (by kernel_rfl)) (fun _ _ _ h => h) (Or.inl ⟨by rfl, ?_⟩) hHeld ?_ ?_
                                      rotate_left
                                      · rintro w' ⟨s0, s1, s2, s3, s4, s5, s6, s7, s8, s9, s10, s11⟩
                                        go_simp
                                        with_reducible rfl
                                      rotate_left
                                      · simp only [Act.put, List.setIfInBounds_toArray, List.set_cons_zero, List.set_cons_succ, i64_w, i32_w]
                                        rfl
                                      refine take_ (i := 4) (N := some 22) (v := ?_) (a' := ?_) #[true, true, false, true, true, false, false, true, false, false, false, false, true, false, false, false, true, false, false, false, true, false, false, false, true, false, false, false, true, false, false, false, true, false, false, false, true, false, false, false, true, false, false, false, true, false, false, false] rfl rfl (take_ofW HT_.out HW_.out (by kernel_rfl)) (fun _ _ _ h => h) (Or.inl ⟨by rfl, ?_⟩) hHeld ?_ ?_
                                      rotate_left
                                      · rintro w' ⟨s0, s1, s2, s3, s4, s5, s6, s7, s8, s9, s10, s11⟩
                                        go_simp
                                        with_reducible rfl
                                      rotate_left
                                      · simp only [Act.put, List.setIfInBounds_toArray, List.set_cons_zero, List.set_cons_succ, i64_w, i32_w]
                                        rfl
                                      refine take_ (i := 8) (N := some 26) (v := ?_) (a' := ?_) #[true, true, false, true, true, false, false, true, true, false, false, false, true, false, false, false, true, false, false, false, true, false, false, false, true, false, false, false, true, false, false, false, true, false, false, false, true, false, false, false, true, false, false, false, true, false, false, false] rfl rfl (take_ofW HT_.out HW_.out (by kernel_rfl)) (fun _ _ _ h => h) (Or.inl ⟨by rfl, ?_⟩) hHeld ?_ ?_
                                      rotate_left
                                      · rintro w' ⟨s0, s1, s2, s3, s4, s5, s6, s7, s8, s9, s10, s11⟩
                                        go_simp
                                        with_reducible rfl
                                      rotate_left
                                      · simp only [Act.put, List.setIfInBounds_toArray, List.set_cons_zero, List.set_cons_succ, i64_w, i32_w]
                                        rfl
                                      refine pure_ (i := 9) (N := some 27) (v := ?_) (a' := ?_) #[true, true, false, true, true, false, false, true, true, true, false, false, true, false, false, false, true, false, false, false, true, false, false, false, true, false, false, false, true, false, false, false, true, false, false, false, true, false, false, false, true, false, false, false, true, false, false, false] rfl rfl (any_of HT_.out (by kernel_rfl)) (fun _ _ _ h => h) (Or.inl ⟨by rfl, ?_⟩) ?_ ?_
                                      rotate_left
                                      · intro w'
                                        go_simp
                                        with_reducible rfl
                                      rotate_left
                                      · simp only [Act.put, List.setIfInBounds_toArray, List.set_cons_zero, List.set_cons_succ, i64_w, i32_w]
                                        rfl
                                      refine take_ (i := 13) (N := some 31) (v := ?_) (a' := ?_) #[true, true, false, true, true, false, false, true, true, true, false, false, true, true, false, false, true, false, false, false, true, false, false, false, true, false, false, false, true, false, false, false, true, false, false, false, true, false, false, false, true, false, false, false, true, false, false, false] rfl rfl (take_ofW HT_.out HW_.out (by kernel_rfl)) (fun _ _ _ h => h) (Or.inl ⟨by rfl, ?_⟩) hHeld ?_ ?_
                                      rotate_left
                                      · rintro w' ⟨s0, s1, s2, s3, s4, s5, s6, s7, s8, s9, s10, s11⟩
                                        go_simp
                                        with_reducible rfl
                                      rotate_left
                                      · simp only [Act.put, List.setIfInBounds_toArray, List.set_cons_zero, List.set_cons_succ, i64_w, i32_w]
                                        rfl
                                      refine take_ (i := 17) (N := some 35) (v := ?_) (a' := ?_) #[true, true, false, true, true, false, false, true, true, true, false, false, true, true, false, false, true, true, false, false, true, false, false, false, true, false, false, false, true, false, false, false, true, false, false, false, true, false, false, false, true, false, false, false, true, false, false, false] rfl rfl (take_ofW HT_.out HW_.out (by kernel_rfl)) (fun _ _ _ h => h) (Or.inl ⟨by rfl, ?_⟩) hHeld ?_ ?_
                                      rotate_left
                                      · rintro w' ⟨s0, s1, s2, s3, s4, s5, s6, s7, s8, s9, s10, s11⟩
                                        go_simp
                                        with_reducible rfl
                                      rotate_left
                                      · simp only [Act.put, List.setIfInBounds_toArray, List.set_cons_zero, List.set_cons_succ, i64_w, i32_w]
                                        rfl
                                      refine take_ (i := 21) (N := some 39) (v := ?_) (a' := ?_) #[true, true, false, true, true, false, false, true, true, true, false, false, true, true, false, false, true, true, false, false, true, true, false, false, true, false, false, false, true, false, false, false, true, false, false, false, true, false, false, false, true, false, false, false, true, false, false, false] rfl rfl (take_ofW HT_.out HW_.out (by kernel_rfl)) (fun _ _ _ h => h) (Or.inl ⟨by rfl, ?_⟩) hHeld ?_ ?_
                                      rotate_left
                                      · rintro w' ⟨s0, s1, s2, s3, s4, s5, s6, s7, s8, s9, s10, s11⟩
                                        go_simp
                                        with_reducible rfl
                                      rotate_left
                                      · simp only [Act.put, List.setIfInBounds_toArray, List.set_cons_zero, List.set_cons_succ, i64_w, i32_w]
                                        rfl
                                      refine take_ (i := 25) (N := some 43) (v := ?_) (a' := ?_) #[true, true, false, true, true, false, false, true, true, true, false, false, true, true, false, false, true, true, false, false, true, true, false, false, true, true, false, false, true, false, false, false, true, false, false, false, true, false, false, false, true, false, false, false, true, false, false, false] rfl rfl (take_ofW HT_.out HW_.out (by kernel_rfl)) (fun _ _ _ h => h) (Or.inl ⟨by rfl, ?_⟩) hHeld ?_ ?_
                                      rotate_left
                                      · rintro w' ⟨s0, s1, s2, s3, s4, s5, s6, s7, s8, s9, s10, s11⟩
                                        go_simp
                                        with_reducible rfl
                                      rotate_left
                                      · simp only [Act.put, List.setIfInBounds_toArray, List.set_cons_zero, List.set_cons_succ, i64_w, i32_w]
                                        rfl
                                      refine take_ (i := 29) (N := some 47) (v := ?_) (a' := ?_) #[true, true, false, true, true, false, false, true, true, true, false, false, true, true, false, false, true, true, false, false, true, true, false, false, true, true, false, false, true, true, false, false, true, false, false, false, true, false, false, false, true, false, false, false, true, false, false, false] rfl rfl (take_ofW HT_.out HW_.out (by kernel_rfl)) (fun _ _ _ h => h) (Or.inl ⟨by rfl, ?_⟩) hHeld ?_ ?_
                                      rotate_left
                                      · rintro w' ⟨s0, s1, s2, s3, s4, s5, s6, s7, s8, s9, s10, s11⟩
                                        go_simp
                                        with_reducible rfl
                                      rotate_left
                                      · simp only [Act.put, List.setIfInBounds_toArray, List.set_cons_zero, List.set_cons_succ, i64_w, i32_w]
                                        rfl
                                      refine take_ (i := 33) (N := some 51) (v := ?_) (a' := ?_) #[true, true, false, true, true, false, false, true, true, true, false, false, true, true, false, false, true, true, false, false, true, true, false, false, true, true, false, false, true, true, false, false, true, true, false, false, true, false, false, false, true, false, false, false, true, false, false, false] rfl rfl (take_ofW HT_.out HW_.out (by kernel_rfl)) (fun _ _ _ h => h) (Or.inl ⟨by rfl, ?_⟩) hHeld ?_ ?_
                                      rotate_left
                                      · rintro w' ⟨s0, s1, s2, s3, s4, s5, s6, s7, s8, s9, s10, s11⟩
                                        go_simp
                                        with_reducible rfl
                                      rotate_left
                                      · simp only [Act.put, List.setIfInBounds_toArray, List.set_cons_zero, List.set_cons_succ, i64_w, i32_w]
                                        rfl
                                      refine take_ (i := 37) (N := some 55) (v := ?_) (a' := ?_) #[true, true, false, true, true, false, false, true, true, true, false, false, true, true, false, false, true, true, false, false, true, true, false, false, true, true, false, false, true, true, false, false, true, true, false, false, true, true, false, false, true, false, false, false, true, false, false, false] rfl rfl (take_ofW HT_.out HW_.out (by kernel_rfl)) (fun _ _ _ h => h) (Or.inl ⟨by rfl, ?_⟩) hHeld ?_ ?_
                                      rotate_left
                                      · rintro w' ⟨s0, s1, s2, s3, s4, s5, s6, s7, s8, s9, s10, s11⟩
                                        go_simp
                                        with_reducible rfl
                                      rotate_left
                                      · simp only [Act.put, List.setIfInBounds_toArray, List.set_cons_zero, List.set_cons_succ, i64_w, i32_w]
                                        rfl
                                      refine take_ (i := 41) (N := some 59) (v := ?_) (a' := ?_) #[true, true, false, true, true, false, false, true, true, true, false, false, true, true, false, false, true, true, false, false, true, true, false, false, true, true, false, false, true, true, false, false, true, true, false, false, true, true, false, false, true, true, false, false, true, false, false, false] rfl rfl (take_ofW HT_.out HW_.out (by kernel_rfl)) (fun _ _ _ h => h) (Or.inl ⟨by rfl, ?_⟩) hHeld ?_ ?_
                                      rotate_left
                                      · rintro w' ⟨s0, s1, s2, s3, s4, s5, s6, s7, s8, s9, s10, s11⟩
                                        go_simp
                                        with_reducible rfl
                                      rotate_left
                                      · simp only [Act.put, List.setIfInBounds_toArray, List.set_cons_zero, List.set_cons_succ, i64_w, i32_w]
                                        rfl
                                      refine take_ (i := 45) (N := some 63) (v := ?_) (a' := ?_) #[true, true, false, true, true, false, false, true, true, true, false, false, true, true, false, false, true, true, false, false, true, true, false, false, true, true, false, false, true, true, false, false, true, true, false, false, true, true, false, false, true, true, false, false, true, true, false, false] rfl rfl (take_ofW HT_.out HW_.out (by kernel_rfl)) (fun _ _ _ h => h) (Or.inl ⟨by rfl, ?_⟩) hHeld ?_ ?_
                                      rotate_left
                                      · rintro w' ⟨s0, s1, s2, s3, s4, s5, s6, s7, s8, s9, s10, s11⟩
                                        go_simp
                                        with_reducible rfl
                                      rotate_left
                                      · simp only [Act.put, List.setIfInBounds_toArray, List.set_cons_zero, List.set_cons_succ, i64_w, i32_w]
                                        rfl
                                      refine one_ (i := 2) (N := some 20) #[true, true, true, true, true, false, false, true, true, true, false, false, true, true, false, false, true, true, false, false, true, true, false, false, true, true, false, false, true, true, false, false, true, true, false, false, true, true, false, false, true, true, false, false, true, true, false, false] rfl rfl (one_of HT_.out (by kernel_rfl)) (by decide) (fun K hK => ?_)
                                      refine goes_ Try.func41 (by kernel_rfl) rfl #[.int .i64 a0_0, .int .i64 1] (by rfl) rfl rfl (by (try simp only [List.map_toArray, List.map_cons, List.map_nil]); first | done | rfl | (simp only [List.length_drop, List.length_take]; rfl)) ?_
                                      with_reducible refine (pinfoldref1_Num.calls k a0_0 1 t135 _ A6.out).mono ?_
                                      rintro e w41 ⟨rfl, hb⟩
                                      refine ⟨_, rfl, ?_⟩
                                      have n0_ := Aside0.mk (blk_below (g := gb131) (o := .cells #[.int .i64 a0_0, .int .i64 a0_1, .int .i64 a0_2, .int .i64 a0_3, .int .i64 a0_4, .int .i64 a0_5, .int .i64 a0_6, .int .i64 a0_7, .int .i64 a0_8, .int .i64 a0_9, .string a0_10, .slice A0_11 l0_11.length c0_11] 24 (0, 0)) (by (with_reducible repeat (first | refine blk_drewN ?_ _ | refine blk_drew ?_ | refine blk_alloc ?_ _)); exact BK131.out) hb)
                                      have n1_ := Aside0.mk (below_step (by repeat (first | (with_reducible first | exact HB.out | apply below_alloc | apply pw_below_drewN | apply below_drew1 | refine below_set ?_ GE131.out) | exact HB.out)) hb)
                                      clear BK131
                                      clear HB
                                      have BK131 := n0_
                                      have HB := n1_
                                      clear n0_ n1_
                                      (try clear hb)
                                      (try clear hb2)
                                      (try clear hk)
                                      (try clear hi)
                                      refine hK.out _ _ ⟨(blk_cell BK131.out 0).trans rfl, (blk_cell BK131.out 1).trans rfl, (blk_cell BK131.out 2).trans rfl, (blk_cell BK131.out 3).trans rfl, (blk_cell BK131.out 4).trans rfl, (blk_cell BK131.out 5).trans rfl, (blk_cell BK131.out 6).trans rfl, (blk_cell BK131.out 7).trans rfl, (blk_cell BK131.out 8).trans rfl, (blk_cell BK131.out 9).trans rfl, (blk_cell BK131.out 10).trans rfl, (blk_cell BK131.out 11).trans rfl⟩ (fun hHeld => ?_)
                                      clear hK K
                                      refine norm_ (a' := ?_) ?_ ?_
                                      rotate_left
                                      · show Act.put _ (some 20) _ = _
                                        simp only [Act.put, List.setIfInBounds_toArray, List.set_cons_zero, List.set_cons_succ, i64_w, i32_w]
                                        rfl
                                      refine one_ (i := 5) (N := some 23) #[true, true, true, true, true, true, false, true, true, true, false, false, true, true, false, false, true, true, false, false, true, true, false, false, true, true, false, false, true, true, false, false, true, true, false, false, true, true, false, false, true, true, false, false, true, true, false, false] rfl rfl (one_of HT_.out (by kernel_rfl)) (by decide) (fun K hK => ?_)
                                      refine goes_ Try.func41 (by kernel_rfl) rfl #[.int .i64 a0_1, .int .i64 1] (by rfl) rfl rfl (by (try simp only [List.map_toArray, List.map_cons, List.map_nil]); first | done | rfl | (simp only [List.length_drop, List.length_take]; rfl)) ?_
                                      with_reducible refine (pinfoldref1_Num.calls k a0_1 1 t136 _ A7.out).mono ?_
                                      rintro e w42 ⟨rfl, hb⟩
                                      refine ⟨_, rfl, ?_⟩
                                      have n0_ := Aside0.mk (blk_below (g := gb131) (o := .cells #[.int .i64 a0_0, .int .i64 a0_1, .int .i64 a0_2, .int .i64 a0_3, .int .i64 a0_4, .int .i64 a0_5, .int .i64 a0_6, .int .i64 a0_7, .int .i64 a0_8, .int .i64 a0_9, .string a0_10, .slice A0_11 l0_11.length c0_11] 24 (0, 0)) (by (with_reducible repeat (first | refine blk_drewN ?_ _ | refine blk_drew ?_ | refine blk_alloc ?_ _)); exact BK131.out) hb)
                                      have n1_ := Aside0.mk (below_step (by repeat (first | (with_reducible first | exact HB.out | apply below_alloc | apply pw_below_drewN | apply below_drew1 | refine below_set ?_ GE131.out) | exact HB.out)) hb)
                                      clear BK131
                                      clear HB
                                      have BK131 := n0_
                                      have HB := n1_
                                      clear n0_ n1_
                                      (try clear hb)
                                      (try clear hb2)
                                      (try clear hk)
                                      (try clear hi)
                                      refine hK.out _ _ ⟨(blk_cell BK131.out 0).trans rfl, (blk_cell BK131.out 1).trans rfl, (blk_cell BK131.out 2).trans rfl, (blk_cell BK131.out 3).trans rfl, (blk_cell BK131.out 4).trans rfl, (blk_cell BK131.out 5).trans rfl, (blk_cell BK131.out 6).trans rfl, (blk_cell BK131.out 7).trans rfl, (blk_cell BK131.out 8).trans rfl, (blk_cell BK131.out 9).trans rfl, (blk_cell BK131.out 10).trans rfl, (blk_cell BK131.out 11).trans rfl⟩ (fun hHeld => ?_)
                                      clear hK K
                                      refine norm_ (a' := ?_) ?_ ?_
                                      rotate_left
                                      · show Act.put _ (some 23) _ = _
                                        simp only [Act.put, List.setIfInBounds_toArray, List.set_cons_zero, List.set_cons_succ, i64_w, i32_w]
                                        rfl
                                      refine pure_ (i := 6) (N := some 24) (v := ?_) (a' := ?_) #[true, true, true, true, true, true, true, true, true, true, false, false, true, true, false, false, true, true, false, false, true, true, false, false, true, true, false, false, true, true, false, false, true, true, false, false, true, true, false, false, true, true, false, false, true, true, false, false] rfl rfl (any_of HT_.out (by kernel_rfl)) (fun _ _ _ h => h) (Or.inl ⟨by rfl, ?_⟩) ?_ ?_
                                      rotate_left
                                      · intro w'
                                        go_simp
                                        with_reducible rfl
                                      rotate_left
                                      · simp only [Act.put, List.setIfInBounds_toArray, List.set_cons_zero, List.set_cons_succ, i64_w, i32_w]
                                        rfl
                                      refine one_ (i := 10) (N := some 28) #[true, true, true, true, true, true, true, true, true, true, true, false, true, true, false, false, true, true, false, false, true, true, false, false, true, true, false, false, true, true, false, false, true, true, false, false, true, true, false, false, true, true, false, false, true, true, false, false] rfl rfl (one_of HT_.out (by kernel_rfl)) (by decide) (fun K hK => ?_)
                                      refine goes_ Try.func41 (by kernel_rfl) rfl #[.int .i64 (a0_10.size : Int), .int .i64 1] (by rfl) rfl rfl (by (try simp only [List.map_toArray, List.map_cons, List.map_nil]); first | done | rfl | (simp only [List.length_drop, List.length_take]; rfl)) ?_
                                      with_reducible refine (pinfoldref1_Num.calls k (a0_10.size : Int) 1 t137 _ A9.out).mono ?_
                                      rintro e w43 ⟨rfl, hb⟩
                                      refine ⟨_, rfl, ?_⟩
                                      have n0_ := Aside0.mk (blk_below (g := gb131) (o := .cells #[.int .i64 a0_0, .int .i64 a0_1, .int .i64 a0_2, .int .i64 a0_3, .int .i64 a0_4, .int .i64 a0_5, .int .i64 a0_6, .int .i64 a0_7, .int .i64 a0_8, .int .i64 a0_9, .string a0_10, .slice A0_11 l0_11.length c0_11] 24 (0, 0)) (by (with_reducible repeat (first | refine blk_drewN ?_ _ | refine blk_drew ?_ | refine blk_alloc ?_ _)); exact BK131.out) hb)
                                      have n1_ := Aside0.mk (below_step (by repeat (first | (with_reducible first | exact HB.out | apply below_alloc | apply pw_below_drewN | apply below_drew1 | refine below_set ?_ GE131.out) | exact HB.out)) hb)
                                      clear BK131
                                      clear HB
                                      have BK131 := n0_
                                      have HB := n1_
                                      clear n0_ n1_
                                      (try clear hb)
                                      (try clear hb2)
                                      (try clear hk)
                                      (try clear hi)
                                      refine hK.out _ _ ⟨(blk_cell BK131.out 0).trans rfl, (blk_cell BK131.out 1).trans rfl, (blk_cell BK131.out 2).trans rfl, (blk_cell BK131.out 3).trans rfl, (blk_cell BK131.out 4).trans rfl, (blk_cell BK131.out 5).trans rfl, (blk_cell BK131.out 6).trans rfl, (blk_cell BK131.out 7).trans rfl, (blk_cell BK131.out 8).trans rfl, (blk_cell BK131.out 9).trans rfl, (blk_cell BK131.out 10).trans rfl, (blk_cell BK131.out 11).trans rfl⟩ (fun hHeld => ?_)
                                      clear hK K
                                      refine norm_ (a' := ?_) ?_ ?_
                                      rotate_left
                                      · show Act.put _ (some 28) _ = _
                                        simp only [Act.put, List.setIfInBounds_toArray, List.set_cons_zero, List.set_cons_succ, i64_w, i32_w]
                                        rfl
                                      refine pure_ (i := 11) (N := some 29) (v := ?_) (a' := ?_) #[true, true, true, true, true, true, true, true, true, true, true, true, true, true, false, false, true, true, false, false, true, true, false, false, true, true, false, false, true, true, false, false, true, true, false, false, true, true, false, false, true, true, false, false, true, true, false, false] rfl rfl (any_of HT_.out (by kernel_rfl)) (fun _ _ _ h => h) (Or.inl ⟨by rfl, ?_⟩) ?_ ?_
                                      rotate_left
                                      · intro w'
                                        go_simp
                                        with_reducible rfl
                                      rotate_left
                                      · simp only [Act.put, List.setIfInBounds_toArray, List.set_cons_zero, List.set_cons_succ, i64_w, i32_w]
                                        rfl
                                      refine one_ (i := 14) (N := some 32) #[true, true, true, true, true, true, true, true, true, true, true, true, true, true, true, false, true, true, false, false, true, true, false, false, true, true, false, false, true, true, false, false, true, true, false, false, true, true, false, false, true, true, false, false, true, true, false, false] rfl rfl (one_of HT_.out (by kernel_rfl)) (by decide) (fun K hK => ?_)
                                      refine goes_ Try.func41 (by kernel_rfl) rfl #[.int .i64 a0_2, .int .i64 1] (by rfl) rfl rfl (by (try simp only [List.map_toArray, List.map_cons, List.map_nil]); first | done | rfl | (simp only [List.length_drop, List.length_take]; rfl)) ?_
                                      with_reducible refine (pinfoldref1_Num.calls k a0_2 1 t138 _ A11.out).mono ?_
                                      rintro e w44 ⟨rfl, hb⟩
                                      refine ⟨_, rfl, ?_⟩
                                      have n0_ := Aside0.mk (blk_below (g := gb131) (o := .cells #[.int .i64 a0_0, .int .i64 a0_1, .int .i64 a0_2, .int .i64 a0_3, .int .i64 a0_4, .int .i64 a0_5, .int .i64 a0_6, .int .i64 a0_7, .int .i64 a0_8, .int .i64 a0_9, .string a0_10, .slice A0_11 l0_11.length c0_11] 24 (0, 0)) (by (with_reducible repeat (first | refine blk_drewN ?_ _ | refine blk_drew ?_ | refine blk_alloc ?_ _)); exact BK131.out) hb)
                                      have n1_ := Aside0.mk (below_step (by repeat (first | (with_reducible first | exact HB.out | apply below_alloc | apply pw_below_drewN | apply below_drew1 | refine below_set ?_ GE131.out) | exact HB.out)) hb)
                                      clear BK131
                                      clear HB
                                      have BK131 := n0_
                                      have HB := n1_
                                      clear n0_ n1_
                                      (try clear hb)
                                      (try clear hb2)
                                      (try clear hk)
                                      (try clear hi)
                                      refine hK.out _ _ ⟨(blk_cell BK131.out 0).trans rfl, (blk_cell BK131.out 1).trans rfl, (blk_cell BK131.out 2).trans rfl, (blk_cell BK131.out 3).trans rfl, (blk_cell BK131.out 4).trans rfl, (blk_cell BK131.out 5).trans rfl, (blk_cell BK131.out 6).trans rfl, (blk_cell BK131.out 7).trans rfl, (blk_cell BK131.out 8).trans rfl, (blk_cell BK131.out 9).trans rfl, (blk_cell BK131.out 10).trans rfl, (blk_cell BK131.out 11).trans rfl⟩ (fun hHeld => ?_)
                                      clear hK K
                                      refine norm_ (a' := ?_) ?_ ?_
                                      rotate_left
                                      · show Act.put _ (some 32) _ = _
                                        simp only [Act.put, List.setIfInBounds_toArray, List.set_cons_zero, List.set_cons_succ, i64_w, i32_w]
                                        rfl
                                      refine pure_ (i := 15) (N := some 33) (v := ?_) (a' := ?_) #[true, true, true, true, true, true, true, true, true, true, true, true, true, true, true, true, true, true, false, false, true, true, false, false, true, true, false, false, true, true, false, false, true, true, false, false, true, true, false, false, true, true, false, false, true, true, false, false] rfl rfl (any_of HT_.out (by kernel_rfl)) (fun _ _ _ h => h) (Or.inl ⟨by rfl, ?_⟩) ?_ ?_
                                      rotate_left
                                      · intro w'
                                        go_simp
                                        with_reducible rfl
                                      rotate_left
                                      · simp only [Act.put, List.setIfInBounds_toArray, List.set_cons_zero, List.set_cons_succ, i64_w, i32_w]
                                        rfl
                                      refine one_ (i := 18) (N := some 36) #[true, true, true, true, true, true, true, true, true, true, true, true, true, true, true, true, true, true, true, false, true, true, false, false, true, true, false, false, true, true, false, false, true, true, false, false, true, true, false, false, true, true, false, false, true, true, false, false] rfl rfl (one_of HT_.out (by kernel_rfl)) (by decide) (fun K hK => ?_)
                                      refine goes_ Try.func41 (by kernel_rfl) rfl #[.int .i64 a0_3, .int .i64 4] (by rfl) rfl rfl (by (try simp only [List.map_toArray, List.map_cons, List.map_nil]); first | done | rfl | (simp only [List.length_drop, List.length_take]; rfl)) ?_
                                      with_reducible refine (pinfoldref1_Num.calls k a0_3 4 t139 _ A13.out).mono ?_
                                      rintro e w45 ⟨rfl, hb⟩
                                      refine ⟨_, rfl, ?_⟩
                                      have n0_ := Aside0.mk (blk_below (g := gb131) (o := .cells #[.int .i64 a0_0, .int .i64 a0_1, .int .i64 a0_2, .int .i64 a0_3, .int .i64 a0_4, .int .i64 a0_5, .int .i64 a0_6, .int .i64 a0_7, .int .i64 a0_8, .int .i64 a0_9, .string a0_10, .slice A0_11 l0_11.length c0_11] 24 (0, 0)) (by (with_reducible repeat (first | refine blk_drewN ?_ _ | refine blk_drew ?_ | refine blk_alloc ?_ _)); exact BK131.out) hb)
                                      have n1_ := Aside0.mk (below_step (by repeat (first | (with_reducible first | exact HB.out | apply below_alloc | apply pw_below_drewN | apply below_drew1 | refine below_set ?_ GE131.out) | exact HB.out)) hb)
                                      clear BK131
                                      clear HB
                                      have BK131 := n0_
                                      have HB := n1_
                                      clear n0_ n1_
                                      (try clear hb)
                                      (try clear hb2)
                                      (try clear hk)
                                      (try clear hi)
                                      refine hK.out _ _ ⟨(blk_cell BK131.out 0).trans rfl, (blk_cell BK131.out 1).trans rfl, (blk_cell BK131.out 2).trans rfl, (blk_cell BK131.out 3).trans rfl, (blk_cell BK131.out 4).trans rfl, (blk_cell BK131.out 5).trans rfl, (blk_cell BK131.out 6).trans rfl, (blk_cell BK131.out 7).trans rfl, (blk_cell BK131.out 8).trans rfl, (blk_cell BK131.out 9).trans rfl, (blk_cell BK131.out 10).trans rfl, (blk_cell BK131.out 11).trans rfl⟩ (fun hHeld => ?_)
                                      clear hK K
                                      refine norm_ (a' := ?_) ?_ ?_
                                      rotate_left
                                      · show Act.put _ (some 36) _ = _
                                        simp only [Act.put, List.setIfInBounds_toArray, List.set_cons_zero, List.set_cons_succ, i64_w, i32_w]
                                        rfl
                                      refine pure_ (i := 19) (N := some 37) (v := ?_) (a' := ?_) #[true, true, true, true, true, true, true, true, true, true, true, true, true, true, true, true, true, true, true, true, true, true, false, false, true, true, false, false, true, true, false, false, true, true, false, false, true, true, false, false, true, true, false, false, true, true, false, false] rfl rfl (any_of HT_.out (by kernel_rfl)) (fun _ _ _ h => h) (Or.inl ⟨by rfl, ?_⟩) ?_ ?_
                                      rotate_left
                                      · intro w'
                                        go_simp
                                        with_reducible rfl
                                      rotate_left
                                      · simp only [Act.put, List.setIfInBounds_toArray, List.set_cons_zero, List.set_cons_succ, i64_w, i32_w]
                                        rfl
                                      refine one_ (i := 22) (N := some 40) #[true, true, true, true, true, true, true, true, true, true, true, true, true, true, true, true, true, true, true, true, true, true, true, false, true, true, false, false, true, true, false, false, true, true, false, false, true, true, false, false, true, true, false, false, true, true, false, false] rfl rfl (one_of HT_.out (by kernel_rfl)) (by decide) (fun K hK => ?_)
                                      refine goes_ Try.func41 (by kernel_rfl) rfl #[.int .i64 a0_4, .int .i64 2] (by rfl) rfl rfl (by (try simp only [List.map_toArray, List.map_cons, List.map_nil]); first | done | rfl | (simp only [List.length_drop, List.length_take]; rfl)) ?_
                                      with_reducible refine (pinfoldref1_Num.calls k a0_4 2 t140 _ A15.out).mono ?_
                                      rintro e w46 ⟨rfl, hb⟩
                                      refine ⟨_, rfl, ?_⟩
                                      have n0_ := Aside0.mk (blk_below (g := gb131) (o := .cells #[.int .i64 a0_0, .int .i64 a0_1, .int .i64 a0_2, .int .i64 a0_3, .int .i64 a0_4, .int .i64 a0_5, .int .i64 a0_6, .int .i64 a0_7, .int .i64 a0_8, .int .i64 a0_9, .string a0_10, .slice A0_11 l0_11.length c0_11] 24 (0, 0)) (by (with_reducible repeat (first | refine blk_drewN ?_ _ | refine blk_drew ?_ | refine blk_alloc ?_ _)); exact BK131.out) hb)
                                      have n1_ := Aside0.mk (below_step (by repeat (first | (with_reducible first | exact HB.out | apply below_alloc | apply pw_below_drewN | apply below_drew1 | refine below_set ?_ GE131.out) | exact HB.out)) hb)
                                      clear BK131
                                      clear HB
                                      have BK131 := n0_
                                      have HB := n1_
                                      clear n0_ n1_
                                      (try clear hb)
                                      (try clear hb2)
                                      (try clear hk)
                                      (try clear hi)
                                      refine hK.out _ _ ⟨(blk_cell BK131.out 0).trans rfl, (blk_cell BK131.out 1).trans rfl, (blk_cell BK131.out 2).trans rfl, (blk_cell BK131.out 3).trans rfl, (blk_cell BK131.out 4).trans rfl, (blk_cell BK131.out 5).trans rfl, (blk_cell BK131.out 6).trans rfl, (blk_cell BK131.out 7).trans rfl, (blk_cell BK131.out 8).trans rfl, (blk_cell BK131.out 9).trans rfl, (blk_cell BK131.out 10).trans rfl, (blk_cell BK131.out 11).trans rfl⟩ (fun hHeld => ?_)
                                      clear hK K
                                      refine norm_ (a' := ?_) ?_ ?_
                                      rotate_left
                                      · show Act.put _ (some 40) _ = _
                                        simp only [Act.put, List.setIfInBounds_toArray, List.set_cons_zero, List.set_cons_succ, i64_w, i32_w]
                                        rfl
                                      refine pure_ (i := 23) (N := some 41) (v := ?_) (a' := ?_) #[true, true, true, true, true, true, true, true, true, true, true, true, true, true, true, true, true, true, true, true, true, true, true, true, true, true, false, false, true, true, false, false, true, true, false, false, true, true, false, false, true, true, false, false, true, true, false, false] rfl rfl (any_of HT_.out (by kernel_rfl)) (fun _ _ _ h => h) (Or.inl ⟨by rfl, ?_⟩) ?_ ?_
                                      rotate_left
                                      · intro w'
                                        go_simp
                                        with_reducible rfl
                                      rotate_left
                                      · simp only [Act.put, List.setIfInBounds_toArray, List.set_cons_zero, List.set_cons_succ, i64_w, i32_w]
                                        rfl
                                      refine one_ (i := 26) (N := some 44) #[true, true, true, true, true, true, true, true, true, true, true, true, true, true, true, true, true, true, true, true, true, true, true, true, true, true, true, false, true, true, false, false, true, true, false, false, true, true, false, false, true, true, false, false, true, true, false, false] rfl rfl (one_of HT_.out (by kernel_rfl)) (by decide) (fun K hK => ?_)
                                      refine goes_ Try.func41 (by kernel_rfl) rfl #[.int .i64 a0_5, .int .i64 2] (by rfl) rfl rfl (by (try simp only [List.map_toArray, List.map_cons, List.map_nil]); first | done | rfl | (simp only [List.length_drop, List.length_take]; rfl)) ?_
                                      with_reducible refine (pinfoldref1_Num.calls k a0_5 2 t141 _ A17.out).mono ?_
                                      rintro e w47 ⟨rfl, hb⟩
                                      refine ⟨_, rfl, ?_⟩
                                      have n0_ := Aside0.mk (blk_below (g := gb131) (o := .cells #[.int .i64 a0_0, .int .i64 a0_1, .int .i64 a0_2, .int .i64 a0_3, .int .i64 a0_4, .int .i64 a0_5, .int .i64 a0_6, .int .i64 a0_7, .int .i64 a0_8, .int .i64 a0_9, .string a0_10, .slice A0_11 l0_11.length c0_11] 24 (0, 0)) (by (with_reducible repeat (first | refine blk_drewN ?_ _ | refine blk_drew ?_ | refine blk_alloc ?_ _)); exact BK131.out) hb)
                                      have n1_ := Aside0.mk (below_step (by repeat (first | (with_reducible first | exact HB.out | apply below_alloc | apply pw_below_drewN | apply below_drew1 | refine below_set ?_ GE131.out) | exact HB.out)) hb)
                                      clear BK131
                                      clear HB
                                      have BK131 := n0_
                                      have HB := n1_
                                      clear n0_ n1_
                                      (try clear hb)
                                      (try clear hb2)
                                      (try clear hk)
                                      (try clear hi)
                                      refine hK.out _ _ ⟨(blk_cell BK131.out 0).trans rfl, (blk_cell BK131.out 1).trans rfl, (blk_cell BK131.out 2).trans rfl, (blk_cell BK131.out 3).trans rfl, (blk_cell BK131.out 4).trans rfl, (blk_cell BK131.out 5).trans rfl, (blk_cell BK131.out 6).trans rfl, (blk_cell BK131.out 7).trans rfl, (blk_cell BK131.out 8).trans rfl, (blk_cell BK131.out 9).trans rfl, (blk_cell BK131.out 10).trans rfl, (blk_cell BK131.out 11).trans rfl⟩ (fun hHeld => ?_)
                                      clear hK K
                                      refine norm_ (a' := ?_) ?_ ?_
                                      rotate_left
                                      · show Act.put _ (some 44) _ = _
                                        simp only [Act.put, List.setIfInBounds_toArray, List.set_cons_zero, List.set_cons_succ, i64_w, i32_w]
                                        rfl
                                      refine pure_ (i := 27) (N := some 45) (v := ?_) (a' := ?_) #[true, true, true, true, true, true, true, true, true, true, true, true, true, true, true, true, true, true, true, true, true, true, true, true, true, true, true, true, true, true, false, false, true, true, false, false, true, true, false, false, true, true, false, false, true, true, false, false] rfl rfl (any_of HT_.out (by kernel_rfl)) (fun _ _ _ h => h) (Or.inl ⟨by rfl, ?_⟩) ?_ ?_
                                      rotate_left
                                      · intro w'
                                        go_simp
                                        with_reducible rfl
                                      rotate_left
                                      · simp only [Act.put, List.setIfInBounds_toArray, List.set_cons_zero, List.set_cons_succ, i64_w, i32_w]
                                        rfl
                                      refine one_ (i := 30) (N := some 48) #[true, true, true, true, true, true, true, true, true, true, true, true, true, true, true, true, true, true, true, true, true, true, true, true, true, true, true, true, true, true, true, false, true, true, false, false, true, true, false, false, true, true, false, false, true, true, false, false] rfl rfl (one_of HT_.out (by kernel_rfl)) (by decide) (fun K hK => ?_)
                                      refine goes_ Try.func41 (by kernel_rfl) rfl #[.int .i64 a0_6, .int .i64 4] (by rfl) rfl rfl (by (try simp only [List.map_toArray, List.map_cons, List.map_nil]); first | done | rfl | (simp only [List.length_drop, List.length_take]; rfl)) ?_
                                      with_reducible refine (pinfoldref1_Num.calls k a0_6 4 t142 _ A19.out).mono ?_
                                      rintro e w48 ⟨rfl, hb⟩
                                      refine ⟨_, rfl, ?_⟩
                                      have n0_ := Aside0.mk (blk_below (g := gb131) (o := .cells #[.int .i64 a0_0, .int .i64 a0_1, .int .i64 a0_2, .int .i64 a0_3, .int .i64 a0_4, .int .i64 a0_5, .int .i64 a0_6, .int .i64 a0_7, .int .i64 a0_8, .int .i64 a0_9, .string a0_10, .slice A0_11 l0_11.length c0_11] 24 (0, 0)) (by (with_reducible repeat (first | refine blk_drewN ?_ _ | refine blk_drew ?_ | refine blk_alloc ?_ _)); exact BK131.out) hb)
                                      have n1_ := Aside0.mk (below_step (by repeat (first | (with_reducible first | exact HB.out | apply below_alloc | apply pw_below_drewN | apply below_drew1 | refine below_set ?_ GE131.out) | exact HB.out)) hb)
                                      clear BK131
                                      clear HB
                                      have BK131 := n0_
                                      have HB := n1_
                                      clear n0_ n1_
                                      (try clear hb)
                                      (try clear hb2)
                                      (try clear hk)
                                      (try clear hi)
                                      refine hK.out _ _ ⟨(blk_cell BK131.out 0).trans rfl, (blk_cell BK131.out 1).trans rfl, (blk_cell BK131.out 2).trans rfl, (blk_cell BK131.out 3).trans rfl, (blk_cell BK131.out 4).trans rfl, (blk_cell BK131.out 5).trans rfl, (blk_cell BK131.out 6).trans rfl, (blk_cell BK131.out 7).trans rfl, (blk_cell BK131.out 8).trans rfl, (blk_cell BK131.out 9).trans rfl, (blk_cell BK131.out 10).trans rfl, (blk_cell BK131.out 11).trans rfl⟩ (fun hHeld => ?_)
                                      clear hK K
                                      refine norm_ (a' := ?_) ?_ ?_
                                      rotate_left
                                      · show Act.put _ (some 48) _ = _
                                        simp only [Act.put, List.setIfInBounds_toArray, List.set_cons_zero, List.set_cons_succ, i64_w, i32_w]
                                        rfl
                                      refine pure_ (i := 31) (N := some 49) (v := ?_) (a' := ?_) #[true, true, true, true, true, true, true, true, true, true, true, true, true, true, true, true, true, true, true, true, true, true, true, true, true, true, true, true, true, true, true, true, true, true, false, false, true, true, false, false, true, true, false, false, true, true, false, false] rfl rfl (any_of HT_.out (by kernel_rfl)) (fun _ _ _ h => h) (Or.inl ⟨by rfl, ?_⟩) ?_ ?_
                                      rotate_left
                                      · intro w'
                                        go_simp
                                        with_reducible rfl
                                      rotate_left
                                      · simp only [Act.put, List.setIfInBounds_toArray, List.set_cons_zero, List.set_cons_succ, i64_w, i32_w]
                                        rfl
                                      refine one_ (i := 34) (N := some 52) #[true, true, true, true, true, true, true, true, true, true, true, true, true, true, true, true, true, true, true, true, true, true, true, true, true, true, true, true, true, true, true, true, true, true, true, false, true, true, false, false, true, true, false, false, true, true, false, false] rfl rfl (one_of HT_.out (by kernel_rfl)) (by decide) (fun K hK => ?_)
                                      refine goes_ Try.func41 (by kernel_rfl) rfl #[.int .i64 a0_7, .int .i64 4] (by rfl) rfl rfl (by (try simp only [List.map_toArray, List.map_cons, List.map_nil]); first | done | rfl | (simp only [List.length_drop, List.length_take]; rfl)) ?_
                                      with_reducible refine (pinfoldref1_Num.calls k a0_7 4 t143 _ A21.out).mono ?_
                                      rintro e w49 ⟨rfl, hb⟩
                                      refine ⟨_, rfl, ?_⟩
                                      have n0_ := Aside0.mk (blk_below (g := gb131) (o := .cells #[.int .i64 a0_0, .int .i64 a0_1, .int .i64 a0_2, .int .i64 a0_3, .int .i64 a0_4, .int .i64 a0_5, .int .i64 a0_6, .int .i64 a0_7, .int .i64 a0_8, .int .i64 a0_9, .string a0_10, .slice A0_11 l0_11.length c0_11] 24 (0, 0)) (by (with_reducible repeat (first | refine blk_drewN ?_ _ | refine blk_drew ?_ | refine blk_alloc ?_ _)); exact BK131.out) hb)
                                      have n1_ := Aside0.mk (below_step (by repeat (first | (with_reducible first | exact HB.out | apply below_alloc | apply pw_below_drewN | apply below_drew1 | refine below_set ?_ GE131.out) | exact HB.out)) hb)
                                      clear BK131
                                      clear HB
                                      have BK131 := n0_
                                      have HB := n1_
                                      clear n0_ n1_
                                      (try clear hb)
                                      (try clear hb2)
                                      (try clear hk)
                                      (try clear hi)
                                      refine hK.out _ _ ⟨(blk_cell BK131.out 0).trans rfl, (blk_cell BK131.out 1).trans rfl, (blk_cell BK131.out 2).trans rfl, (blk_cell BK131.out 3).trans rfl, (blk_cell BK131.out 4).trans rfl, (blk_cell BK131.out 5).trans rfl, (blk_cell BK131.out 6).trans rfl, (blk_cell BK131.out 7).trans rfl, (blk_cell BK131.out 8).trans rfl, (blk_cell BK131.out 9).trans rfl, (blk_cell BK131.out 10).trans rfl, (blk_cell BK131.out 11).trans rfl⟩ (fun hHeld => ?_)
                                      clear hK K
                                      refine norm_ (a' := ?_) ?_ ?_
                                      rotate_left
                                      · show Act.put _ (some 52) _ = _
                                        simp only [Act.put, List.setIfInBounds_toArray, List.set_cons_zero, List.set_cons_succ, i64_w, i32_w]
                                        rfl
                                      refine pure_ (i := 35) (N := some 53) (v := ?_) (a' := ?_) #[true, true, true, true, true, true, true, true, true, true, true, true, true, true, true, true, true, true, true, true, true, true, true, true, true, true, true, true, true, true, true, true, true, true, true, true, true, true, false, false, true, true, false, false, true, true, false, false] rfl rfl (any_of HT_.out (by kernel_rfl)) (fun _ _ _ h => h) (Or.inl ⟨by rfl, ?_⟩) ?_ ?_
                                      rotate_left
                                      · intro w'
                                        go_simp
                                        with_reducible rfl
                                      rotate_left
                                      · simp only [Act.put, List.setIfInBounds_toArray, List.set_cons_zero, List.set_cons_succ, i64_w, i32_w]
                                        rfl
                                      refine one_ (i := 38) (N := some 56) #[true, true, true, true, true, true, true, true, true, true, true, true, true, true, true, true, true, true, true, true, true, true, true, true, true, true, true, true, true, true, true, true, true, true, true, true, true, true, true, false, true, true, false, false, true, true, false, false] rfl rfl (one_of HT_.out (by kernel_rfl)) (by decide) (fun K hK => ?_)
                                      refine goes_ Try.func41 (by kernel_rfl) rfl #[.int .i64 a0_8, .int .i64 4] (by rfl) rfl rfl (by (try simp only [List.map_toArray, List.map_cons, List.map_nil]); first | done | rfl | (simp only [List.length_drop, List.length_take]; rfl)) ?_
                                      with_reducible refine (pinfoldref1_Num.calls k a0_8 4 t144 _ A23.out).mono ?_
                                      rintro e w50 ⟨rfl, hb⟩
                                      refine ⟨_, rfl, ?_⟩
                                      have n0_ := Aside0.mk (blk_below (g := gb131) (o := .cells #[.int .i64 a0_0, .int .i64 a0_1, .int .i64 a0_2, .int .i64 a0_3, .int .i64 a0_4, .int .i64 a0_5, .int .i64 a0_6, .int .i64 a0_7, .int .i64 a0_8, .int .i64 a0_9, .string a0_10, .slice A0_11 l0_11.length c0_11] 24 (0, 0)) (by (with_reducible repeat (first | refine blk_drewN ?_ _ | refine blk_drew ?_ | refine blk_alloc ?_ _)); exact BK131.out) hb)
                                      have n1_ := Aside0.mk (below_step (by repeat (first | (with_reducible first | exact HB.out | apply below_alloc | apply pw_below_drewN | apply below_drew1 | refine below_set ?_ GE131.out) | exact HB.out)) hb)
                                      clear BK131
                                      clear HB
                                      have BK131 := n0_
                                      have HB := n1_
                                      clear n0_ n1_
                                      (try clear hb)
                                      (try clear hb2)
                                      (try clear hk)
                                      (try clear hi)
                                      refine hK.out _ _ ⟨(blk_cell BK131.out 0).trans rfl, (blk_cell BK131.out 1).trans rfl, (blk_cell BK131.out 2).trans rfl, (blk_cell BK131.out 3).trans rfl, (blk_cell BK131.out 4).trans rfl, (blk_cell BK131.out 5).trans rfl, (blk_cell BK131.out 6).trans rfl, (blk_cell BK131.out 7).trans rfl, (blk_cell BK131.out 8).trans rfl, (blk_cell BK131.out 9).trans rfl, (blk_cell BK131.out 10).trans rfl, (blk_cell BK131.out 11).trans rfl⟩ (fun hHeld => ?_)
                                      clear hK K
                                      refine norm_ (a' := ?_) ?_ ?_
                                      rotate_left
                                      · show Act.put _ (some 56) _ = _
                                        simp only [Act.put, List.setIfInBounds_toArray, List.set_cons_zero, List.set_cons_succ, i64_w, i32_w]
                                        rfl
                                      refine pure_ (i := 39) (N := some 57) (v := ?_) (a' := ?_) #[true, true, true, true, true, true, true, true, true, true, true, true, true, true, true, true, true, true, true, true, true, true, true, true, true, true, true, true, true, true, true, true, true, true, true, true, true, true, true, true, true, true, false, false, true, true, false, false] rfl rfl (any_of HT_.out (by kernel_rfl)) (fun _ _ _ h => h) (Or.inl ⟨by rfl, ?_⟩) ?_ ?_
                                      rotate_left
                                      · intro w'
                                        go_simp
                                        with_reducible rfl
                                      rotate_left
                                      · simp only [Act.put, List.setIfInBounds_toArray, List.set_cons_zero, List.set_cons_succ, i64_w, i32_w]
                                        rfl
                                      refine one_ (i := 42) (N := some 60) #[true, true, true, true, true, true, true, true, true, true, true, true, true, true, true, true, true, true, true, true, true, true, true, true, true, true, true, true, true, true, true, true, true, true, true, true, true, true, true, true, true, true, true, false, true, true, false, false] rfl rfl (one_of HT_.out (by kernel_rfl)) (by decide) (fun K hK => ?_)
                                      refine goes_ Try.func41 (by kernel_rfl) rfl #[.int .i64 a0_9, .int .i64 4] (by rfl) rfl rfl (by (try simp only [List.map_toArray, List.map_cons, List.map_nil]); first | done | rfl | (simp only [List.length_drop, List.length_take]; rfl)) ?_
                                      with_reducible refine (pinfoldref1_Num.calls k a0_9 4 t145 _ A25.out).mono ?_
                                      rintro e w51 ⟨rfl, hb⟩
                                      refine ⟨_, rfl, ?_⟩
                                      have n0_ := Aside0.mk (blk_below (g := gb131) (o := .cells #[.int .i64 a0_0, .int .i64 a0_1, .int .i64 a0_2, .int .i64 a0_3, .int .i64 a0_4, .int .i64 a0_5, .int .i64 a0_6, .int .i64 a0_7, .int .i64 a0_8, .int .i64 a0_9, .string a0_10, .slice A0_11 l0_11.length c0_11] 24 (0, 0)) (by (with_reducible repeat (first | refine blk_drewN ?_ _ | refine blk_drew ?_ | refine blk_alloc ?_ _)); exact BK131.out) hb)
                                      have n1_ := Aside0.mk (below_step (by repeat (first | (with_reducible first | exact HB.out | apply below_alloc | apply pw_below_drewN | apply below_drew1 | refine below_set ?_ GE131.out) | exact HB.out)) hb)
                                      clear BK131
                                      clear HB
                                      have BK131 := n0_
                                      have HB := n1_
                                      clear n0_ n1_
                                      (try clear hb)
                                      (try clear hb2)
                                      (try clear hk)
                                      (try clear hi)
                                      refine hK.out _ _ ⟨(blk_cell BK131.out 0).trans rfl, (blk_cell BK131.out 1).trans rfl, (blk_cell BK131.out 2).trans rfl, (blk_cell BK131.out 3).trans rfl, (blk_cell BK131.out 4).trans rfl, (blk_cell BK131.out 5).trans rfl, (blk_cell BK131.out 6).trans rfl, (blk_cell BK131.out 7).trans rfl, (blk_cell BK131.out 8).trans rfl, (blk_cell BK131.out 9).trans rfl, (blk_cell BK131.out 10).trans rfl, (blk_cell BK131.out 11).trans rfl⟩ (fun hHeld => ?_)
                                      clear hK K
                                      refine norm_ (a' := ?_) ?_ ?_
                                      rotate_left
                                      · show Act.put _ (some 60) _ = _
                                        simp only [Act.put, List.setIfInBounds_toArray, List.set_cons_zero, List.set_cons_succ, i64_w, i32_w]
                                        rfl
                                      refine pure_ (i := 43) (N := some 61) (v := ?_) (a' := ?_) #[true, true, true, true, true, true, true, true, true, true, true, true, true, true, true, true, true, true, true, true, true, true, true, true, true, true, true, true, true, true, true, true, true, true, true, true, true, true, true, true, true, true, true, true, true, true, false, false] rfl rfl (any_of HT_.out (by kernel_rfl)) (fun _ _ _ h => h) (Or.inl ⟨by rfl, ?_⟩) ?_ ?_
                                      rotate_left
                                      · intro w'
                                        go_simp
                                        with_reducible rfl
                                      rotate_left
                                      · simp only [Act.put, List.setIfInBounds_toArray, List.set_cons_zero, List.set_cons_succ, i64_w, i32_w]
                                        rfl
                                      refine pure_ (i := 46) (N := some 64) (v := ?_) (a' := ?_) #[true, true, true, true, true, true, true, true, true, true, true, true, true, true, true, true, true, true, true, true, true, true, true, true, true, true, true, true, true, true, true, true, true, true, true, true, true, true, true, true, true, true, true, true, true, true, true, false] rfl rfl (any_of HT_.out (by kernel_rfl)) (fun _ _ _ h => h) (Or.inl ⟨by rfl, ?_⟩) ?_ ?_
                                      rotate_left
                                      · intro w'
                                        go_simp
                                        with_reducible rfl
                                      rotate_left
                                      · simp only [Act.put, List.setIfInBounds_toArray, List.set_cons_zero, List.set_cons_succ, i64_w, i32_w]
                                        rfl
                                      refine pure_ (i := 47) (N := some 6) (v := ?_) (a' := ?_) #[true, true, true, true, true, true, true, true, true, true, true, true, true, true, true, true, true, true, true, true, true, true, true, true, true, true, true, true, true, true, true, true, true, true, true, true, true, true, true, true, true, true, true, true, true, true, true, true] rfl rfl (any_of HT_.out (by kernel_rfl)) (fun _ _ _ h => h) (Or.inl ⟨by rfl, ?_⟩) ?_ ?_
                                      rotate_left
                                      · intro w'
                                        go_simp
                                        with_reducible rfl
                                      rotate_left
                                      · simp only [Act.put, List.setIfInBounds_toArray, List.set_cons_zero, List.set_cons_succ, i64_w, i32_w]
                                        rfl
                                      refine done_ (done_of HT_.out (by kernel_rfl)) ?_
                                      try go_wp2
                                      have n0_ := Aside0.mk (blk_drew BK131.out)
                                      have n1_ := Aside0.mk (below_drew1 HB.out)
                                      clear BK131
                                      clear HB
                                      have BK131 := n0_
                                      have HB := n1_
                                      clear n0_ n1_
                                      refine start_ (n := 13) (S := fun w' => True) (ds := []) #[false, false, false, false, false, false, false, false, false, false, false, false, false] (by kernel_rfl) rfl rfl trivial (fun hHeld => ?_); refine with_tabW pinfoldref1_PutPacket.tab7 pinfoldref1_PutPacket.bits7 (fun HT_ HW_ => ?_)
                                      generalize w51.drew = w52 at BK131 HB hHeld ⊢
                                      refine pure_ (i := 0) (N := some 65) (v := ?_) (a' := ?_) #[true, false, false, false, false, false, false, false, false, false, false, false, false] rfl rfl (any_of HT_.out (by kernel_rfl)) (fun _ _ _ h => h) (Or.inl ⟨by rfl, ?_⟩) ?_ ?_
                                      rotate_left
                                      · intro w'
                                        go_simp
                                        with_reducible rfl
                                      rotate_left
                                      · simp only [Act.put, List.setIfInBounds_toArray, List.set_cons_zero, List.set_cons_succ, i64_w, i32_w]
                                        rfl
                                      refine pure_ (i := 1) (N := some 66) (v := ?_) (a' := ?_) #[true, true, false, false, false, false, false, false, false, false, false, false, false] rfl rfl (any_of HT_.out (by kernel_rfl)) (fun _ _ _ h => h) (Or.inl ⟨by rfl, ?_⟩) ?_ ?_
                                      rotate_left
                                      · intro w'
                                        go_simp
                                        with_reducible rfl
                                      rotate_left
                                      · simp only [Act.put, List.setIfInBounds_toArray, List.set_cons_zero, List.set_cons_succ, i64_w, i32_w]
                                        rfl
                                      refine pure_ (i := 2) (N := some 67) (v := ?_) (a' := ?_) #[true, true, true, false, false, false, false, false, false, false, false, false, false] rfl rfl (any_of HT_.out (by kernel_rfl)) (fun _ _ _ h => h) (Or.inl ⟨by rfl, ?_⟩) ?_ ?_
                                      rotate_left
                                      · intro w'
                                        go_simp
                                        with_reducible rfl
                                      rotate_left
                                      · simp only [Act.put, List.setIfInBounds_toArray, List.set_cons_zero, List.set_cons_succ, i64_w, i32_w]
                                        rfl
                                      refine pure_ (i := 3) (N := some 68) (v := ?_) (a' := ?_) #[true, true, true, true, false, false, false, false, false, false, false, false, false] rfl rfl (any_of HT_.out (by kernel_rfl)) (fun _ _ _ h => h) (Or.inl ⟨by rfl, ?_⟩) ?_ ?_
                                      rotate_left
                                      · intro w'
                                        go_simp
                                        with_reducible rfl
                                      rotate_left
                                      · simp only [Act.put, List.setIfInBounds_toArray, List.set_cons_zero, List.set_cons_succ, i64_w, i32_w]
                                        rfl
                                      refine pure_ (i := 9) (N := some 74) (v := ?_) (a' := ?_) #[true, true, true, true, false, false, false, false, false, true, false, false, false] rfl rfl (any_of HT_.out (by kernel_rfl)) (fun _ _ _ h => h) (Or.inl ⟨by rfl, ?_⟩) ?_ ?_
                                      rotate_left
                                      · intro w'
                                        go_simp
                                        with_reducible rfl
                                      rotate_left
                                      · simp only [Act.put, List.setIfInBounds_toArray, List.set_cons_zero, List.set_cons_succ, i64_w, i32_w]
                                        rfl
                                      refine join_ (σ := Value) 4 #[true, true, true, true, true, true, true, true, false, true, false, false, false] (fun s_ => [(69, s_), (70, .string (strOfNums y146)), (72, .string t149), (71, .string ((((((((((((t135 ++ t136) ++ t137) ++ t138) ++ t139) ++ t140) ++ t141) ++ t142) ++ t143) ++ t144) ++ t145) ++ a0_10) ++ (strOfNums y146)))]) (fun s_ w' => (Kd.R (Kd.int .u8) 5 w' w.heap.size (fun _ => True) s_ y146) ∧ (w'.heap[gb131]? = some (.cells #[.int .i64 a0_0, .int .i64 a0_1, .int .i64 a0_2, .int .i64 a0_3, .int .i64 a0_4, .int .i64 a0_5, .int .i64 a0_6, .int .i64 a0_7, .int .i64 a0_8, .int .i64 a0_9, .string a0_10, .slice A0_11 l0_11.length c0_11] 24 (0, 0))) ∧ (Below w.heap.size w w')) ?_ ?_
                                      rotate_left
                                      · intro hCont
                                        refine two_ (i := 4) (j := 7) (Ni := some 69) (Nj := some 72) #[true, true, true, true, true, false, false, false, false, true, false, false, false] #[true, true, true, true, false, false, false, true, false, true, false, false, false] rfl rfl rfl rfl (two_of HT_.out (by kernel_rfl)) (by decide) (by decide) (fun K hK => ?_) (fun K hK => ?_)
                                        · skip
                                          refine Kd.R_make_step (Kd.int .u8) _ 5 (by rfl) (N := 69) rfl 43 _ _ rfl ji28 rfl rfl Try.underlying43 (.int .u8 0) 1 info5 rfl (by decide) (by omega) 0 (ok := fun _ => True) (okp := fun _ => True) rfl (fun _ hk => hk) trivial (of_decide_eq_true (by first | (with_reducible assumption) | assumption)) (Nat.le_trans (Nat.mul_le_mul_right _ (of_decide_eq_true (by first | (with_reducible assumption) | assumption) : ji28.toNat ≤ 281474976710656)) (by omega)) (Below.refl _ _) (Nat.le_refl _) ?_
                                          intro v147 w53 ho54 hb hg_ hnew_
                                          clear hg_ hnew_
                                          (first | rw [← Ny146.out] at ho54 | (simp only [Int.reduceToNat] at ho54; rw [← Ny146.out] at ho54))
                                          have n0_ := Aside0.mk (Kd.R_lower ho54 (below_size (by repeat (first | (with_reducible first | exact HB.out | apply below_alloc | apply pw_below_drewN | apply below_drew1 | refine below_set ?_ GE131.out) | exact HB.out))))
                                          have n1_ := Aside0.mk (blk_below (g := gb131) (o := .cells #[.int .i64 a0_0, .int .i64 a0_1, .int .i64 a0_2, .int .i64 a0_3, .int .i64 a0_4, .int .i64 a0_5, .int .i64 a0_6, .int .i64 a0_7, .int .i64 a0_8, .int .i64 a0_9, .string a0_10, .slice A0_11 l0_11.length c0_11] 24 (0, 0)) (by (with_reducible repeat (first | refine blk_drewN ?_ _ | refine blk_drew ?_ | refine blk_alloc ?_ _)); exact BK131.out) hb)
                                          have n2_ := Aside0.mk (below_step (by repeat (first | (with_reducible first | exact HB.out | apply below_alloc | apply pw_below_drewN | apply below_drew1 | refine below_set ?_ GE131.out) | exact HB.out)) hb)
                                          clear BK131
                                          clear HB
                                          have HO148 := n0_
                                          have BK131 := n1_
                                          have HB := n2_
                                          clear n0_ n1_ n2_
                                          clear hb ho54
                                          refine hK.out _ _ trivial (fun hHeld => ?_)
                                          clear hK K
                                          refine norm_ (a' := ?_) ?_ ?_
                                          rotate_left
                                          · show Act.put _ (some 69) _ = _
                                            simp only [Act.put, List.setIfInBounds_toArray, List.set_cons_zero, List.set_cons_succ, i64_w, i32_w]
                                            rfl
                                          refine two_ (i := 5) (j := 7) (Ni := some 70) (Nj := some 72) #[true, true, true, true, true, true, false, false, false, true, false, false, false] #[true, true, true, true, true, false, false, true, false, true, false, false, false] rfl rfl rfl rfl (two_of HT_.out (by kernel_rfl)) (by decide) (by decide) (fun K hK => ?_) (fun K hK => ?_)
                                          · skip
                                            have hcv55 := own_string (P := Try.prog) Try.underlying43 Try.underlying5 Try.underlying9 (Kd.own_of_R HO148.out)
                                            refine value_ (w1 := ?_) (v := ?_) (by rfl) rfl ?_ ?_
                                            rotate_left 2
                                            · go_simp
                                              constructor
                                              · rfl
                                              · rfl
                                            clear hcv55
                                            refine hK.out _ _ trivial (fun hHeld => ?_)
                                            clear hK K
                                            refine norm_ (a' := ?_) ?_ ?_
                                            rotate_left
                                            · show Act.put _ (some 70) _ = _
                                              simp only [Act.put, List.setIfInBounds_toArray, List.set_cons_zero, List.set_cons_succ, i64_w, i32_w]
                                              rfl
                                            refine pure_ (i := 6) (N := some 71) (v := ?_) (a' := ?_) #[true, true, true, true, true, true, true, false, false, true, false, false, false] rfl rfl (any_of HT_.out (by kernel_rfl)) (fun _ _ _ h => h) (Or.inl ⟨by rfl, ?_⟩) ?_ ?_
                                            rotate_left
                                            · intro w'
                                              go_simp
                                              with_reducible rfl
                                            rotate_left
                                            · simp only [Act.put, List.setIfInBounds_toArray, List.set_cons_zero, List.set_cons_succ, i64_w, i32_w]
                                              rfl
                                            refine one_ (i := 7) (N := some 72) #[true, true, true, true, true, true, true, true, false, true, false, false, false] rfl rfl (one_of HT_.out (by kernel_rfl)) (by decide) (fun K hK => ?_)
                                            refine goes_ Try.func41 (by kernel_rfl) rfl #[.int .i64 1669485411, .int .i64 4] (by rfl) rfl rfl (by (try simp only [List.map_toArray, List.map_cons, List.map_nil]); first | done | rfl | (simp only [List.length_drop, List.length_take]; rfl)) ?_
                                            with_reducible refine (pinfoldref1_Num.calls k 1669485411 4 t149 _ A32.out).mono ?_
                                            rintro e w56 ⟨rfl, hb⟩
                                            refine ⟨_, rfl, ?_⟩
                                            have n0_ := Aside0.mk (Kd.R_below (by (with_reducible repeat (first | apply Kd.R_alloc | apply Kd.R_drewN | apply Kd.R_drew)); exact HO148.out) hb)
                                            have n1_ := Aside0.mk (blk_below (g := gb131) (o := .cells #[.int .i64 a0_0, .int .i64 a0_1, .int .i64 a0_2, .int .i64 a0_3, .int .i64 a0_4, .int .i64 a0_5, .int .i64 a0_6, .int .i64 a0_7, .int .i64 a0_8, .int .i64 a0_9, .string a0_10, .slice A0_11 l0_11.length c0_11] 24 (0, 0)) (by (with_reducible repeat (first | refine blk_drewN ?_ _ | refine blk_drew ?_ | refine blk_alloc ?_ _)); exact BK131.out) hb)
                                            have n2_ := Aside0.mk (below_step (by repeat (first | (with_reducible first | exact HB.out | apply below_alloc | apply pw_below_drewN | apply below_drew1 | refine below_set ?_ GE131.out) | exact HB.out)) hb)
                                            clear HO148
                                            clear BK131
                                            clear HB
                                            have HO148 := n0_
                                            have BK131 := n1_
                                            have HB := n2_
                                            clear n0_ n1_ n2_
                                            (try clear hb)
                                            (try clear hb2)
                                            (try clear hk)
                                            (try clear hi)
                                            refine hK.out _ _ trivial (fun hHeld => ?_)
                                            clear hK K
                                            refine norm_ (a' := ?_) ?_ ?_
                                            rotate_left
                                            · show Act.put _ (some 72) _ = _
                                              simp only [Act.put, List.setIfInBounds_toArray, List.set_cons_zero, List.set_cons_succ, i64_w, i32_w]
                                              rfl
                                            exact norm_ (by simp only [putAll, Act.put, List.setIfInBounds_toArray, List.set_cons_zero, List.set_cons_succ]) (hCont (v147) _ ⟨(by (with_reducible repeat (first | apply Kd.R_alloc | apply Kd.R_drewN | apply Kd.R_drew)); exact HO148.out), (by (with_reducible repeat (first | refine blk_drewN ?_ _ | refine blk_drew ?_ | refine blk_alloc ?_ _)); exact BK131.out), (by repeat (first | (with_reducible first | exact HB.out | apply below_alloc | apply pw_below_drewN | apply below_drew1 | refine below_set ?_ GE131.out) | exact HB.out))⟩)
                                          · skip
                                            refine goes_ Try.func41 (by kernel_rfl) rfl #[.int .i64 1669485411, .int .i64 4] (by rfl) rfl rfl (by (try simp only [List.map_toArray, List.map_cons, List.map_nil]); first | done | rfl | (simp only [List.length_drop, List.length_take]; rfl)) ?_
                                            with_reducible refine (pinfoldref1_Num.calls k 1669485411 4 t149 _ A32.out).mono ?_
                                            rintro e w55 ⟨rfl, hb⟩
                                            refine ⟨_, rfl, ?_⟩
                                            have n0_ := Aside0.mk (Kd.R_below (by (with_reducible repeat (first | apply Kd.R_alloc | apply Kd.R_drewN | apply Kd.R_drew)); exact HO148.out) hb)
                                            have n1_ := Aside0.mk (blk_below (g := gb131) (o := .cells #[.int .i64 a0_0, .int .i64 a0_1, .int .i64 a0_2, .int .i64 a0_3, .int .i64 a0_4, .int .i64 a0_5, .int .i64 a0_6, .int .i64 a0_7, .int .i64 a0_8, .int .i64 a0_9, .string a0_10, .slice A0_11 l0_11.length c0_11] 24 (0, 0)) (by (with_reducible repeat (first | refine blk_drewN ?_ _ | refine blk_drew ?_ | refine blk_alloc ?_ _)); exact BK131.out) hb)
                                            have n2_ := Aside0.mk (below_step (by repeat (first | (with_reducible first | exact HB.out | apply below_alloc | apply pw_below_drewN | apply below_drew1 | refine below_set ?_ GE131.out) | exact HB.out)) hb)
                                            clear HO148
                                            clear BK131
                                            clear HB
                                            have HO148 := n0_
                                            have BK131 := n1_
                                            have HB := n2_
                                            clear n0_ n1_ n2_
                                            (try clear hb)
                                            (try clear hb2)
                                            (try clear hk)
                                            (try clear hi)
                                            refine hK.out _ _ trivial (fun hHeld => ?_)
                                            clear hK K
                                            refine norm_ (a' := ?_) ?_ ?_
                                            rotate_left
                                            · show Act.put _ (some 72) _ = _
                                              simp only [Act.put, List.setIfInBounds_toArray, List.set_cons_zero, List.set_cons_succ, i64_w, i32_w]
                                              rfl
                                            refine one_ (i := 5) (N := some 70) #[true, true, true, true, true, true, false, true, false, true, false, false, false] rfl rfl (one_of HT_.out (by kernel_rfl)) (by decide) (fun K hK => ?_)
                                            have hcv56 := own_string (P := Try.prog) Try.underlying43 Try.underlying5 Try.underlying9 (Kd.own_of_R HO148.out)
                                            refine value_ (w1 := ?_) (v := ?_) (by rfl) rfl ?_ ?_
                                            rotate_left 2
                                            · go_simp
                                              constructor
                                              · rfl
                                              · rfl
                                            clear hcv56
                                            refine hK.out _ _ trivial (fun hHeld => ?_)
                                            clear hK K
                                            refine norm_ (a' := ?_) ?_ ?_
                                            rotate_left
                                            · show Act.put _ (some 70) _ = _
                                              simp only [Act.put, List.setIfInBounds_toArray, List.set_cons_zero, List.set_cons_succ, i64_w, i32_w]
                                              rfl
                                            refine pure_ (i := 6) (N := some 71) (v := ?_) (a' := ?_) #[true, true, true, true, true, true, true, true, false, true, false, false, false] rfl rfl (any_of HT_.out (by kernel_rfl)) (fun _ _ _ h => h) (Or.inl ⟨by rfl, ?_⟩) ?_ ?_
                                            rotate_left
                                            · intro w'
                                              go_simp
                                              with_reducible rfl
                                            rotate_left
                                            · simp only [Act.put, List.setIfInBounds_toArray, List.set_cons_zero, List.set_cons_succ, i64_w, i32_w]
                                              rfl
                                            exact norm_ (by simp only [putAll, Act.put, List.setIfInBounds_toArray, List.set_cons_zero, List.set_cons_succ]) (hCont (v147) _ ⟨(by (with_reducible repeat (first | apply Kd.R_alloc | apply Kd.R_drewN | apply Kd.R_drew)); exact HO148.out), (by (with_reducible repeat (first | refine blk_drewN ?_ _ | refine blk_drew ?_ | refine blk_alloc ?_ _)); exact BK131.out), (by repeat (first | (with_reducible first | exact HB.out | apply below_alloc | apply pw_below_drewN | apply below_drew1 | refine below_set ?_ GE131.out) | exact HB.out))⟩)
                                        · skip
                                          refine goes_ Try.func41 (by kernel_rfl) rfl #[.int .i64 1669485411, .int .i64 4] (by rfl) rfl rfl (by (try simp only [List.map_toArray, List.map_cons, List.map_nil]); first | done | rfl | (simp only [List.length_drop, List.length_take]; rfl)) ?_
                                          with_reducible refine (pinfoldref1_Num.calls k 1669485411 4 t149 _ A32.out).mono ?_
                                          rintro e w53 ⟨rfl, hb⟩
                                          refine ⟨_, rfl, ?_⟩
                                          have n0_ := Aside0.mk (blk_below (g := gb131) (o := .cells #[.int .i64 a0_0, .int .i64 a0_1, .int .i64 a0_2, .int .i64 a0_3, .int .i64 a0_4, .int .i64 a0_5, .int .i64 a0_6, .int .i64 a0_7, .int .i64 a0_8, .int .i64 a0_9, .string a0_10, .slice A0_11 l0_11.length c0_11] 24 (0, 0)) (by (with_reducible repeat (first | refine blk_drewN ?_ _ | refine blk_drew ?_ | refine blk_alloc ?_ _)); exact BK131.out) hb)
                                          have n1_ := Aside0.mk (below_step (by repeat (first | (with_reducible first | exact HB.out | apply below_alloc | apply pw_below_drewN | apply below_drew1 | refine below_set ?_ GE131.out) | exact HB.out)) hb)
                                          clear BK131
                                          clear HB
                                          have BK131 := n0_
                                          have HB := n1_
                                          clear n0_ n1_
                                          (try clear hb)
                                          (try clear hb2)
                                          (try clear hk)
                                          (try clear hi)
                                          refine hK.out _ _ trivial (fun hHeld => ?_)
                                          clear hK K
                                          refine norm_ (a' := ?_) ?_ ?_
                                          rotate_left
                                          · show Act.put _ (some 72) _ = _
                                            simp only [Act.put, List.setIfInBounds_toArray, List.set_cons_zero, List.set_cons_succ, i64_w, i32_w]
                                            rfl
                                          refine one_ (i := 4) (N := some 69) #[true, true, true, true, true, false, false, true, false, true, false, false, false] rfl rfl (one_of HT_.out (by kernel_rfl)) (by decide) (fun K hK => ?_)
                                          refine Kd.R_make_step (Kd.int .u8) _ 5 (by rfl) (N := 69) rfl 43 _ _ rfl ji28 rfl rfl Try.underlying43 (.int .u8 0) 1 info5 rfl (by decide) (by omega) 0 (ok := fun _ => True) (okp := fun _ => True) rfl (fun _ hk => hk) trivial (of_decide_eq_true (by first | (with_reducible assumption) | assumption)) (Nat.le_trans (Nat.mul_le_mul_right _ (of_decide_eq_true (by first | (with_reducible assumption) | assumption) : ji28.toNat ≤ 281474976710656)) (by omega)) (Below.refl _ _) (Nat.le_refl _) ?_
                                          intro v147 w54 ho55 hb hg_ hnew_
                                          clear hg_ hnew_
                                          (first | rw [← Ny146.out] at ho55 | (simp only [Int.reduceToNat] at ho55; rw [← Ny146.out] at ho55))
                                          have n0_ := Aside0.mk (Kd.R_lower ho55 (below_size (by repeat (first | (with_reducible first | exact HB.out | apply below_alloc | apply pw_below_drewN | apply below_drew1 | refine below_set ?_ GE131.out) | exact HB.out))))
                                          have n1_ := Aside0.mk (blk_below (g := gb131) (o := .cells #[.int .i64 a0_0, .int .i64 a0_1, .int .i64 a0_2, .int .i64 a0_3, .int .i64 a0_4, .int .i64 a0_5, .int .i64 a0_6, .int .i64 a0_7, .int .i64 a0_8, .int .i64 a0_9, .string a0_10, .slice A0_11 l0_11.length c0_11] 24 (0, 0)) (by (with_reducible repeat (first | refine blk_drewN ?_ _ | refine blk_drew ?_ | refine blk_alloc ?_ _)); exact BK131.out) hb)
                                          have n2_ := Aside0.mk (below_step (by repeat (first | (with_reducible first | exact HB.out | apply below_alloc | apply pw_below_drewN | apply below_drew1 | refine below_set ?_ GE131.out) | exact HB.out)) hb)
                                          clear BK131
                                          clear HB
                                          have HO148 := n0_
                                          have BK131 := n1_
                                          have HB := n2_
                                          clear n0_ n1_ n2_
                                          clear hb ho55
                                          refine hK.out _ _ trivial (fun hHeld => ?_)
                                          clear hK K
                                          refine norm_ (a' := ?_) ?_ ?_
                                          rotate_left
                                          · show Act.put _ (some 69) _ = _
                                            simp only [Act.put, List.setIfInBounds_toArray, List.set_cons_zero, List.set_cons_succ, i64_w, i32_w]
                                            rfl
                                          refine one_ (i := 5) (N := some 70) #[true, true, true, true, true, true, false, true, false, true, false, false, false] rfl rfl (one_of HT_.out (by kernel_rfl)) (by decide) (fun K hK => ?_)
                                          have hcv56 := own_string (P := Try.prog) Try.underlying43 Try.underlying5 Try.underlying9 (Kd.own_of_R HO148.out)
                                          refine value_ (w1 := ?_) (v := ?_) (by rfl) rfl ?_ ?_
                                          rotate_left 2
                                          · go_simp
                                            constructor
                                            · rfl
                                            · rfl
                                          clear hcv56
                                          refine hK.out _ _ trivial (fun hHeld => ?_)
                                          clear hK K
                                          refine norm_ (a' := ?_) ?_ ?_
                                          rotate_left
                                          · show Act.put _ (some 70) _ = _
                                            simp only [Act.put, List.setIfInBounds_toArray, List.set_cons_zero, List.set_cons_succ, i64_w, i32_w]
                                            rfl
                                          refine pure_ (i := 6) (N := some 71) (v := ?_) (a' := ?_) #[true, true, true, true, true, true, true, true, false, true, false, false, false] rfl rfl (any_of HT_.out (by kernel_rfl)) (fun _ _ _ h => h) (Or.inl ⟨by rfl, ?_⟩) ?_ ?_
                                          rotate_left
                                          · intro w'
                                            go_simp
                                            with_reducible rfl
                                          rotate_left
                                          · simp only [Act.put, List.setIfInBounds_toArray, List.set_cons_zero, List.set_cons_succ, i64_w, i32_w]
                                            rfl
                                          exact norm_ (by simp only [putAll, Act.put, List.setIfInBounds_toArray, List.set_cons_zero, List.set_cons_succ]) (hCont (v147) _ ⟨(by (with_reducible repeat (first | apply Kd.R_alloc | apply Kd.R_drewN | apply Kd.R_drew)); exact HO148.out), (by (with_reducible repeat (first | refine blk_drewN ?_ _ | refine blk_drew ?_ | refine blk_alloc ?_ _)); exact BK131.out), (by repeat (first | (with_reducible first | exact HB.out | apply below_alloc | apply pw_below_drewN | apply below_drew1 | refine below_set ?_ GE131.out) | exact HB.out))⟩)
                                      rintro v147 w57 ⟨h0_, h1_, h2_⟩
                                      have n0_ : Aside0 (Kd.R (Kd.int .u8) 5 w57 w.heap.size (fun _ => True) v147 y146) := ⟨h0_⟩
                                      have n1_ : Aside0 (w57.heap[gb131]? = some (.cells #[.int .i64 a0_0, .int .i64 a0_1, .int .i64 a0_2, .int .i64 a0_3, .int .i64 a0_4, .int .i64 a0_5, .int .i64 a0_6, .int .i64 a0_7, .int .i64 a0_8, .int .i64 a0_9, .string a0_10, .slice A0_11 l0_11.length c0_11] 24 (0, 0))) := ⟨h1_⟩
                                      have n2_ : Aside0 (Below w.heap.size w w57) := ⟨h2_⟩
                                      clear BK131
                                      clear HB
                                      clear h0_ h1_ h2_
                                      have HO148 := n0_
                                      have BK131 := n1_
                                      have HB := n2_
                                      clear n0_ n1_ n2_
                                      have hHeld := trivial
                                      refine norm_ (a' := ?_) ?_ ?_
                                      rotate_left
                                      · simp only [putAll, Act.put, List.setIfInBounds_toArray, List.set_cons_zero, List.set_cons_succ]
                                        rfl
                                      refine pure_ (i := 8) (N := some 73) (v := ?_) (a' := ?_) #[true, true, true, true, true, true, true, true, true, true, false, false, false] rfl rfl (any_of HT_.out (by kernel_rfl)) (fun _ _ _ h => h) (Or.inl ⟨by rfl, ?_⟩) ?_ ?_
                                      rotate_left
                                      · intro w'
                                        go_simp
                                        with_reducible rfl
                                      rotate_left
                                      · simp only [Act.put, List.setIfInBounds_toArray, List.set_cons_zero, List.set_cons_succ, i64_w, i32_w]
                                        rfl
                                      refine pure_ (i := 10) (N := some 75) (v := ?_) (a' := ?_) #[true, true, true, true, true, true, true, true, true, true, true, false, false] rfl rfl (any_of HT_.out (by kernel_rfl)) (fun _ _ _ h => h) (Or.inl ⟨by rfl, ?_⟩) ?_ ?_
                                      rotate_left
                                      · intro w'
                                        go_simp
                                        with_reducible rfl
                                      rotate_left
                                      · simp only [Act.put, List.setIfInBounds_toArray, List.set_cons_zero, List.set_cons_succ, i64_w, i32_w]
                                        rfl
                                      refine pure_ (i := 11) (N := some 2) (v := ?_) (a' := ?_) #[true, true, true, true, true, true, true, true, true, true, true, true, false] rfl rfl (any_of HT_.out (by kernel_rfl)) (fun _ _ _ h => h) (Or.inl ⟨by rfl, ?_⟩) ?_ ?_
                                      rotate_left
                                      · intro w'
                                        go_simp
                                        with_reducible rfl
                                      rotate_left
                                      · simp only [Act.put, List.setIfInBounds_toArray, List.set_cons_zero, List.set_cons_succ, i64_w, i32_w]
                                        rfl
                                      refine pure_ (i := 12) (N := some 3) (v := ?_) (a' := ?_) #[true, true, true, true, true, true, true, true, true, true, true, true, true] rfl rfl (any_of HT_.out (by kernel_rfl)) (fun _ _ _ h => h) (Or.inl ⟨by rfl, ?_⟩) ?_ ?_
                                      rotate_left
                                      · intro w'
                                        go_simp
                                        with_reducible rfl
                                      rotate_left
                                      · simp only [Act.put, List.setIfInBounds_toArray, List.set_cons_zero, List.set_cons_succ, i64_w, i32_w]
                                        rfl
                                      refine done_ (done_of HT_.out (by kernel_rfl)) ?_
                                      try go_wp2
                                      go_ret2
                                      exact ⟨by first | rfl | (simp [errW_none, errW_some] <;> rfl) | (simp only [← hji28]; first | rfl | (simp [errW_none, errW_some] <;> rfl)) | (simp [*, errW_none, errW_some] <;> rfl), by repeat (first | (with_reducible first | exact HB.out | apply below_alloc | apply pw_below_drewN | apply below_drew1 | refine below_set ?_ GE131.out) | exact HB.out)⟩
                                    · rw [if_neg c34] at H
                                      exact absurd H (by simp)
                                  · rw [if_neg c33] at H
                                    exact absurd H (by simp)
                                · rw [if_neg c31] at H
                                  exact absurd H (by simp)
                              · rw [if_neg c30] at H
                                exact absurd H (by simp)
                            · rw [if_neg c29] at H
                              exact absurd H (by simp)
                          · rw [if_neg c27] at H
                            exact absurd H (by simp)
                        · rw [if_neg c26] at H
                          exact absurd H (by simp)
                      · rw [if_neg c24] at H
                        exact absurd H (by simp)
                    · rw [if_neg c22] at H
                      exact absurd H (by simp)
                  · rw [if_neg c20] at H
                    exact absurd H (by simp)
                · rw [if_neg c18] at H
                  exact absurd H (by simp)
              · rw [if_neg c16] at H
                exact absurd H (by simp)
            · rw [if_neg c14] at H
              exact absurd H (by simp)
          · rw [if_neg c12] at H
            exact absurd H (by simp)
        · rw [if_neg c10] at H
          exact absurd H (by simp)
      · rw [if_neg c8] at H
        exact absurd H (by simp)
    · rw [if_neg c5] at H
      have c5b0 : (t134 == 0) = false := beq_eq_false_iff_ne.mpr c5
      have c5b1 : (t134 != 0) = true := bne_iff_ne.mpr c5
      simp only [Option.some.injEq, Prod.mk.injEq] at H
      obtain ⟨rfl, rfl⟩ := H
      go_enter Try.func13, Try.ntmps13
      go_wp2_with (first | ((with_reducible refine gate_dst (N := 1) rfl ?_); refine box_event ?hg (N := 1) ?hd (cs := #[.int .i64 a0_0, .int .i64 a0_1, .int .i64 a0_2, .int .i64 a0_3, .int .i64 a0_4, .int .i64 a0_5, .int .i64 a0_6, .int .i64 a0_7, .int .i64 a0_8, .int .i64 a0_9, .string a0_10, .slice A0_11 l0_11.length c0_11]) (t := 24) ?hr ?_; (case hd => rfl); (case hg => rfl); (case hr => first | (go_simp; done) | (go_simp; rfl)); intro gb131 hg w58 hbox hb; have n0_ := Aside0.mk (below_step (by repeat (first | (with_reducible first | exact HB.out | apply below_alloc | apply pw_below_drewN | apply below_drew1) | exact HB.out)) hb); have n1_ := Aside0.mk (hbox); have n2_ := Aside0.mk ((by rw [hg]; exact (below_size (by repeat (first | (with_reducible first | exact HB.out | apply below_alloc | apply pw_below_drewN | apply below_drew1) | exact HB.out))) : w.heap.size ≤ gb131)); have n3_ := Aside0.mk ((by rw [hg]; exact (below_size (by repeat (first | (with_reducible first | exact HB.out | apply below_alloc | apply pw_below_drewN | apply below_drew1) | exact HB.out))) : w.heap.size ≤ gb131)); clear HB; have HB := n0_; have BK131 := n1_; have GW131 := n2_; have GE131 := n3_; clear n0_ n1_ n2_ n3_; clear hb hbox hg; have hcz59_0 : w58.cell? ⟨gb131, 0, none⟩ = some (.int .i64 a0_0) := (blk_cell BK131.out 0).trans rfl; have hcz59_1 : w58.cell? ⟨gb131, 1, none⟩ = some (.int .i64 a0_1) := (blk_cell BK131.out 1).trans rfl; have hcz59_2 : w58.cell? ⟨gb131, 2, none⟩ = some (.int .i64 a0_2) := (blk_cell BK131.out 2).trans rfl; have hcz59_3 : w58.cell? ⟨gb131, 3, none⟩ = some (.int .i64 a0_3) := (blk_cell BK131.out 3).trans rfl; have hcz59_4 : w58.cell? ⟨gb131, 4, none⟩ = some (.int .i64 a0_4) := (blk_cell BK131.out 4).trans rfl; have hcz59_5 : w58.cell? ⟨gb131, 5, none⟩ = some (.int .i64 a0_5) := (blk_cell BK131.out 5).trans rfl; have hcz59_6 : w58.cell? ⟨gb131, 6, none⟩ = some (.int .i64 a0_6) := (blk_cell BK131.out 6).trans rfl; have hcz59_7 : w58.cell? ⟨gb131, 7, none⟩ = some (.int .i64 a0_7) := (blk_cell BK131.out 7).trans rfl; have hcz59_8 : w58.cell? ⟨gb131, 8, none⟩ = some (.int .i64 a0_8) := (blk_cell BK131.out 8).trans rfl; have hcz59_9 : w58.cell? ⟨gb131, 9, none⟩ = some (.int .i64 a0_9) := (blk_cell BK131.out 9).trans rfl; have hcz59_10 : w58.cell? ⟨gb131, 10, none⟩ = some (.string a0_10) := (blk_cell BK131.out 10).trans rfl; have hcz59_11 : w58.cell? ⟨gb131, 11, none⟩ = some (.slice A0_11 l0_11.length c0_11) := (blk_cell BK131.out 11).trans rfl; have hfz59_0 := blk_frozen BK131.out 0; have hfz59_1 := blk_frozen BK131.out 1; have hfz59_2 := blk_frozen BK131.out 2; have hfz59_3 := blk_frozen BK131.out 3; have hfz59_4 := blk_frozen BK131.out 4; have hfz59_5 := blk_frozen BK131.out 5; have hfz59_6 := blk_frozen BK131.out 6; have hfz59_7 := blk_frozen BK131.out 7; have hfz59_8 := blk_frozen BK131.out 8; have hfz59_9 := blk_frozen BK131.out 9; have hfz59_10 := blk_frozen BK131.out 10; have hfz59_11 := blk_frozen BK131.out 11) | ((with_reducible refine gate_callee (f := 19) rfl ?_); refine goesL_ (some 8) rfl rfl Try.func19 (by kernel_rfl) rfl #[.agg #[.int .i64 a0_0, .int .i64 a0_1, .int .i64 a0_2, .int .i64 a0_3, .int .i64 a0_4, .int .i64 a0_5, .int .i64 a0_6, .int .i64 a0_7, .int .i64 a0_8, .int .i64 a0_9, .string a0_10, .slice A0_11 l0_11.length c0_11]] rfl (by (try simp only [List.map_toArray, List.map_cons, List.map_nil]); first | done | rfl | (simp only [List.length_drop, List.length_take]; rfl)) ?_; (with_reducible refine (pinfoldref1_PacketMay.calls a0_0 a0_1 a0_2 a0_3 a0_4 a0_5 a0_6 a0_7 a0_8 a0_9 a0_10 _ _ l0_11 true _ ?side1 ?side2 A2.out).mono ?_); (case side1 => repeat (first | exact (Kd.C_below HR0_11.out HB.out) | (with_reducible refine Kd.C_alloc ?_ _) | (with_reducible refine Kd.C_drewN ?_ _) | (with_reducible refine Kd.C_drew ?_))); (case side2 => exact HC0_11.out); rintro e w60 ⟨rfl, hb⟩; refine ⟨_, rfl, ?_⟩; have n0_ := Aside0.mk (blk_below (g := gb131) (o := .cells #[.int .i64 a0_0, .int .i64 a0_1, .int .i64 a0_2, .int .i64 a0_3, .int .i64 a0_4, .int .i64 a0_5, .int .i64 a0_6, .int .i64 a0_7, .int .i64 a0_8, .int .i64 a0_9, .string a0_10, .slice A0_11 l0_11.length c0_11] 24 (0, 0)) (by (with_reducible repeat (first | refine blk_drewN ?_ _ | refine blk_drew ?_ | refine blk_alloc ?_ _)); exact BK131.out) hb); have n1_ := Aside0.mk (below_step (by repeat (first | (with_reducible first | exact HB.out | apply below_alloc | apply pw_below_drewN | apply below_drew1 | refine below_set ?_ GE131.out) | exact HB.out)) hb); clear BK131; clear HB; have BK131 := n0_; have HB := n1_; clear n0_ n1_; (try clear hb); (try clear hb2); (try clear hk); (try clear hi); have hcz61_0 : w60.cell? ⟨gb131, 0, none⟩ = some (.int .i64 a0_0) := (blk_cell BK131.out 0).trans rfl; have hcz61_1 : w60.cell? ⟨gb131, 1, none⟩ = some (.int .i64 a0_1) := (blk_cell BK131.out 1).trans rfl; have hcz61_2 : w60.cell? ⟨gb131, 2, none⟩ = some (.int .i64 a0_2) := (blk_cell BK131.out 2).trans rfl; have hcz61_3 : w60.cell? ⟨gb131, 3, none⟩ = some (.int .i64 a0_3) := (blk_cell BK131.out 3).trans rfl; have hcz61_4 : w60.cell? ⟨gb131, 4, none⟩ = some (.int .i64 a0_4) := (blk_cell BK131.out 4).trans rfl; have hcz61_5 : w60.cell? ⟨gb131, 5, none⟩ = some (.int .i64 a0_5) := (blk_cell BK131.out 5).trans rfl; have hcz61_6 : w60.cell? ⟨gb131, 6, none⟩ = some (.int .i64 a0_6) := (blk_cell BK131.out 6).trans rfl; have hcz61_7 : w60.cell? ⟨gb131, 7, none⟩ = some (.int .i64 a0_7) := (blk_cell BK131.out 7).trans rfl; have hcz61_8 : w60.cell? ⟨gb131, 8, none⟩ = some (.int .i64 a0_8) := (blk_cell BK131.out 8).trans rfl; have hcz61_9 : w60.cell? ⟨gb131, 9, none⟩ = some (.int .i64 a0_9) := (blk_cell BK131.out 9).trans rfl; have hcz61_10 : w60.cell? ⟨gb131, 10, none⟩ = some (.string a0_10) := (blk_cell BK131.out 10).trans rfl; have hcz61_11 : w60.cell? ⟨gb131, 11, none⟩ = some (.slice A0_11 l0_11.length c0_11) := (blk_cell BK131.out 11).trans rfl; have hfz61_0 := blk_frozen BK131.out 0; have hfz61_1 := blk_frozen BK131.out 1; have hfz61_2 := blk_frozen BK131.out 2; have hfz61_3 := blk_frozen BK131.out 3; have hfz61_4 := blk_frozen BK131.out 4; have hfz61_5 := blk_frozen BK131.out 5; have hfz61_6 := blk_frozen BK131.out 6; have hfz61_7 := blk_frozen BK131.out 7; have hfz61_8 := blk_frozen BK131.out 8; have hfz61_9 := blk_frozen BK131.out 9; have hfz61_10 := blk_frozen BK131.out 10; have hfz61_11 := blk_frozen BK131.out 11) | ((with_reducible refine gate_callee (f := 40) rfl ?_); refine goesL_ (some 13) rfl rfl Try.func40 (by kernel_rfl) rfl #[.slice A0_11 l0_11.length c0_11] rfl (by (try simp only [List.map_toArray, List.map_cons, List.map_nil]); first | done | rfl | (simp only [List.length_drop, List.length_take]; rfl)) ?_; (with_reducible refine (pinfoldref1_PutOpts.calls _ _ l0_11 t133 t134 _ ?side1 ?side2 A4.out).mono ?_); (case side1 => repeat (first | exact (Kd.C_below HR0_11.out HB.out) | (with_reducible refine Kd.C_alloc ?_ _) | (with_reducible refine Kd.C_drewN ?_ _) | (with_reducible refine Kd.C_drew ?_))); (case side2 => exact HC0_11.out); rintro e w62 ⟨rfl, hb⟩; refine ⟨_, rfl, ?_⟩; have n0_ := Aside0.mk (blk_below (g := gb131) (o := .cells #[.int .i64 a0_0, .int .i64 a0_1, .int .i64 a0_2, .int .i64 a0_3, .int .i64 a0_4, .int .i64 a0_5, .int .i64 a0_6, .int .i64 a0_7, .int .i64 a0_8, .int .i64 a0_9, .string a0_10, .slice A0_11 l0_11.length c0_11] 24 (0, 0)) (by (with_reducible repeat (first | refine blk_drewN ?_ _ | refine blk_drew ?_ | refine blk_alloc ?_ _)); exact BK131.out) hb); have n1_ := Aside0.mk (below_step (by repeat (first | (with_reducible first | exact HB.out | apply below_alloc | apply pw_below_drewN | apply below_drew1 | refine below_set ?_ GE131.out) | exact HB.out)) hb); clear BK131; clear HB; have BK131 := n0_; have HB := n1_; clear n0_ n1_; (try clear hb); (try clear hb2); (try clear hk); (try clear hi)))
      go_ret2
      exact ⟨by first | rfl | (simp [errW_none, errW_some] <;> rfl) | (simp [*, errW_none, errW_some] <;> rfl), by repeat (first | (with_reducible first | exact HB.out | apply below_alloc | apply pw_below_drewN | apply below_drew1 | refine below_set ?_ GE131.out) | exact HB.out)⟩
  · replace c3 := Bool.eq_false_iff.mpr c3
    subst c3
    have H1 : (some ((⟨#[]⟩ : ByteArray), 700)) = some (r1, r2) := by rw [if_neg (show ¬ (false = true) by decide)] at H; exact H
    clear H
    have H := H1
    clear H1
    simp only [Option.some.injEq, Prod.mk.injEq] at H
    obtain ⟨rfl, rfl⟩ := H
    go_enter Try.func13, Try.ntmps13
    go_wp2_with (first | ((with_reducible refine gate_dst (N := 1) rfl ?_); refine box_event ?hg (N := 1) ?hd (cs := #[.int .i64 a0_0, .int .i64 a0_1, .int .i64 a0_2, .int .i64 a0_3, .int .i64 a0_4, .int .i64 a0_5, .int .i64 a0_6, .int .i64 a0_7, .int .i64 a0_8, .int .i64 a0_9, .string a0_10, .slice A0_11 l0_11.length c0_11]) (t := 24) ?hr ?_; (case hd => rfl); (case hg => rfl); (case hr => first | (go_simp; done) | (go_simp; rfl)); intro gb131 hg w63 hbox hb; have n0_ := Aside0.mk (below_step (by repeat (first | (with_reducible first | exact HB.out | apply below_alloc | apply pw_below_drewN | apply below_drew1) | exact HB.out)) hb); have n1_ := Aside0.mk (hbox); have n2_ := Aside0.mk ((by rw [hg]; exact (below_size (by repeat (first | (with_reducible first | exact HB.out | apply below_alloc | apply pw_below_drewN | apply below_drew1) | exact HB.out))) : w.heap.size ≤ gb131)); have n3_ := Aside0.mk ((by rw [hg]; exact (below_size (by repeat (first | (with_reducible first | exact HB.out | apply below_alloc | apply pw_below_drewN | apply below_drew1) | exact HB.out))) : w.heap.size ≤ gb131)); clear HB; have HB := n0_; have BK131 := n1_; have GW131 := n2_; have GE131 := n3_; clear n0_ n1_ n2_ n3_; clear hb hbox hg; have hcz64_0 : w63.cell? ⟨gb131, 0, none⟩ = some (.int .i64 a0_0) := (blk_cell BK131.out 0).trans rfl; have hcz64_1 : w63.cell? ⟨gb131, 1, none⟩ = some (.int .i64 a0_1) := (blk_cell BK131.out 1).trans rfl; have hcz64_2 : w63.cell? ⟨gb131, 2, none⟩ = some (.int .i64 a0_2) := (blk_cell BK131.out 2).trans rfl; have hcz64_3 : w63.cell? ⟨gb131, 3, none⟩ = some (.int .i64 a0_3) := (blk_cell BK131.out 3).trans rfl; have hcz64_4 : w63.cell? ⟨gb131, 4, none⟩ = some (.int .i64 a0_4) := (blk_cell BK131.out 4).trans rfl; have hcz64_5 : w63.cell? ⟨gb131, 5, none⟩ = some (.int .i64 a0_5) := (blk_cell BK131.out 5).trans rfl; have hcz64_6 : w63.cell? ⟨gb131, 6, none⟩ = some (.int .i64 a0_6) := (blk_cell BK131.out 6).trans rfl; have hcz64_7 : w63.cell? ⟨gb131, 7, none⟩ = some (.int .i64 a0_7) := (blk_cell BK131.out 7).trans rfl; have hcz64_8 : w63.cell? ⟨gb131, 8, none⟩ = some (.int .i64 a0_8) := (blk_cell BK131.out 8).trans rfl; have hcz64_9 : w63.cell? ⟨gb131, 9, none⟩ = some (.int .i64 a0_9) := (blk_cell BK131.out 9).trans rfl; have hcz64_10 : w63.cell? ⟨gb131, 10, none⟩ = some (.string a0_10) := (blk_cell BK131.out 10).trans rfl; have hcz64_11 : w63.cell? ⟨gb131, 11, none⟩ = some (.slice A0_11 l0_11.length c0_11) := (blk_cell BK131.out 11).trans rfl; have hfz64_0 := blk_frozen BK131.out 0; have hfz64_1 := blk_frozen BK131.out 1; have hfz64_2 := blk_frozen BK131.out 2; have hfz64_3 := blk_frozen BK131.out 3; have hfz64_4 := blk_frozen BK131.out 4; have hfz64_5 := blk_frozen BK131.out 5; have hfz64_6 := blk_frozen BK131.out 6; have hfz64_7 := blk_frozen BK131.out 7; have hfz64_8 := blk_frozen BK131.out 8; have hfz64_9 := blk_frozen BK131.out 9; have hfz64_10 := blk_frozen BK131.out 10; have hfz64_11 := blk_frozen BK131.out 11) | ((with_reducible refine gate_callee (f := 19) rfl ?_); refine goesL_ (some 8) rfl rfl Try.func19 (by kernel_rfl) rfl #[.agg #[.int .i64 a0_0, .int .i64 a0_1, .int .i64 a0_2, .int .i64 a0_3, .int .i64 a0_4, .int .i64 a0_5, .int .i64 a0_6, .int .i64 a0_7, .int .i64 a0_8, .int .i64 a0_9, .string a0_10, .slice A0_11 l0_11.length c0_11]] rfl (by (try simp only [List.map_toArray, List.map_cons, List.map_nil]); first | done | rfl | (simp only [List.length_drop, List.length_take]; rfl)) ?_; (with_reducible refine (pinfoldref1_PacketMay.calls a0_0 a0_1 a0_2 a0_3 a0_4 a0_5 a0_6 a0_7 a0_8 a0_9 a0_10 _ _ l0_11 false _ ?side1 ?side2 A2.out).mono ?_); (case side1 => repeat (first | exact (Kd.C_below HR0_11.out HB.out) | (with_reducible refine Kd.C_alloc ?_ _) | (with_reducible refine Kd.C_drewN ?_ _) | (with_reducible refine Kd.C_drew ?_))); (case side2 => exact HC0_11.out); rintro e w65 ⟨rfl, hb⟩; refine ⟨_, rfl, ?_⟩; have n0_ := Aside0.mk (blk_below (g := gb131) (o := .cells #[.int .i64 a0_0, .int .i64 a0_1, .int .i64 a0_2, .int .i64 a0_3, .int .i64 a0_4, .int .i64 a0_5, .int .i64 a0_6, .int .i64 a0_7, .int .i64 a0_8, .int .i64 a0_9, .string a0_10, .slice A0_11 l0_11.length c0_11] 24 (0, 0)) (by (with_reducible repeat (first | refine blk_drewN ?_ _ | refine blk_drew ?_ | refine blk_alloc ?_ _)); exact BK131.out) hb); have n1_ := Aside0.mk (below_step (by repeat (first | (with_reducible first | exact HB.out | apply below_alloc | apply pw_below_drewN | apply below_drew1 | refine below_set ?_ GE131.out) | exact HB.out)) hb); clear BK131; clear HB; have BK131 := n0_; have HB := n1_; clear n0_ n1_; (try clear hb); (try clear hb2); (try clear hk); (try clear hi)))
    go_ret2
    exact ⟨by first | rfl | (simp [errW_none, errW_some] <;> rfl) | (simp [*, errW_none, errW_some] <;> rfl), by repeat (first | (with_reducible first | exact HB.out | apply below_alloc | apply pw_below_drewN | apply below_drew1 | refine below_set ?_ GE131.out) | exact HB.out)⟩

end Go.Proofs.Ytjiojpconkhdmaa.Fs

import Derived.Test.YtjiojpconkhdmaaCGAwake
import Derived.Test.YtjiojpconkhdmaaCF13
import Derived.Test.YtjiojpconkhdmaaCM1
namespace Go.Proofs.Ytjiojpconkhdmaa.Fs
open Go.RowKit Go.Maps Go.Proofs.YtjiojpconkhdmaaW.PrintWords Go.Proofs.YtjiojpconkhdmaaW.PrintLast Go.Proofs.YtjiojpconkhdmaaW.PrintMore
set_option linter.unusedVariables false
set_option linter.unusedSimpArgs false
theorem within_8 (x : Int) : pinfoldref1_within.f x 8 = some (fitsB x 1) := by
  unfold pinfoldref1_within.f fitsB
  by_cases h : 0 ≤ x
  · rw [if_pos h, if_pos (by decide), shl8]; simp [h]
  · rw [if_neg h]; simp [h]
theorem within_16 (x : Int) : pinfoldref1_within.f x 16 = some (fitsB x 2) := by
  unfold pinfoldref1_within.f fitsB
  by_cases h : 0 ≤ x
  · rw [if_pos h, if_pos (by decide), shl16]; simp [h]
  · rw [if_neg h]; simp [h]
theorem within_32 (x : Int) : pinfoldref1_within.f x 32 = some (fitsB x 4) := by
  unfold pinfoldref1_within.f fitsB
  by_cases h : 0 ≤ x
  · rw [if_pos h, if_pos (by decide), shl32]; simp [h]
  · rw [if_neg h]; simp [h]
theorem ite_and' (b c : Bool) : (if b = true then some c else some false) = some (b && c) := by cases b <;> rfl
theorem refMay_eq (a0 a1 a2 a3 a4 a5 a6 a7 a8 a9 : Int) (a10 : ByteArray) (l : List S102) : pinfoldref1_PacketMay.f a0 a1 a2 a3 a4 a5 a6 a7 a8 a9 a10 l = some (decide (a10.size ≤ 16) && optsMay l && numsFit a0 a1 a2 a3 a4 a5 a6 a7 a8 a9) := by
  have hin : (if (a10.size : Int) ≤ 16 then ((pinfoldref1_OptsMay.f l).bind fun t127 => (some t127)) else (some false)) = some (decide (a10.size ≤ 16) && optsMay l) := by
    by_cases h : a10.size ≤ 16
    · rw [if_pos (by omega), decide_eq_true h]; rfl
    · rw [if_neg (by omega), decide_eq_false h]; rfl
  unfold pinfoldref1_PacketMay.f
  rw [hin]
  simp only [within_8, within_16, within_32, Option.bind_some, ite_and']
  unfold numsFit
  congr 1
  generalize decide (a10.size ≤ 16) = d
  generalize optsMay l = o
  generalize fitsB a0 1 = b0
  generalize fitsB a1 1 = b1
  generalize fitsB a2 1 = b2
  generalize fitsB a3 4 = b3
  generalize fitsB a4 2 = b4
  generalize fitsB a5 2 = b5
  generalize fitsB a6 4 = b6
  generalize fitsB a7 4 = b7
  generalize fitsB a8 4 = b8
  generalize fitsB a9 4 = b9
  cases d <;> cases o <;> simp [Bool.and_assoc]
theorem str_zeros (n : Nat) : strOfNums (List.replicate n 0) = ⟨Array.replicate n 0⟩ := by
  unfold strOfNums
  apply ByteArray.ext
  simp
theorem put_arith (n : Nat) (h : n ≤ 16) : wrap64 (236 - ((1 + 1 + 1 + 1 + 4 + 2 + 2 + 4 + 4 + 4 + 4 + n : Nat) : Int)) = ((208 - n : Nat) : Int) := by unfold wrap64; omega
theorem be2_size (x : Int) : (be2 x).size = 2 := rfl
theorem be4_size (x : Int) : (be4 x).size = 4 := rfl
theorem putPacket_eq (a0 a1 a2 a3 a4 a5 a6 a7 a8 a9 : Int) (a10 : ByteArray) (l : List S102) : pinfoldref1_PutPacket.f 6 a0 a1 a2 a3 a4 a5 a6 a7 a8 a9 a10 l = packet_Put.f a0 a1 a2 a3 a4 a5 a6 a7 a8 a9 a10 l := by
  unfold pinfoldref1_PutPacket.f packet_Put.f
  rw [refMay_eq, Option.bind_some]
  by_cases hm : (decide (a10.size ≤ 16) && optsMay l && numsFit a0 a1 a2 a3 a4 a5 a6 a7 a8 a9) = true
  · rw [if_pos hm]
    have h16 : a10.size ≤ 16 := of_decide_eq_true (Bool.and_eq_true_iff.1 (Bool.and_eq_true_iff.1 hm).1).1
    have hom : optsMay l = true := (Bool.and_eq_true_iff.1 (Bool.and_eq_true_iff.1 hm).1).2
    have hpo : pinfoldref1_PutOpts.f l = if 1200 < (optsB l ++ [255]).length then some (⟨#[]⟩, 601) else some (⟨(optsB l ++ [255]).toArray⟩, 0) := by
      unfold pinfoldref1_PutOpts.f opts_Put.f
      exact if_pos hom
    rw [hpo]
    by_cases hl : 1200 < (optsB l ++ [255]).length
    · rw [if_pos hl, if_neg (fun h => h.2 hl)]
      rfl
    · rw [if_neg hl, if_pos ⟨hm, hl⟩]
      have hob : (ByteArray.mk (optsB l ++ [255]).toArray).size ≤ 1200 := by rw [size_mk]; omega
      generalize hO : optsB l ++ [255] = O at hob
      rw [Option.bind_some, if_pos (rfl : (0 : Int) = 0)]
      rw [ref_Num_1, Option.bind_some]
      rw [ref_Num_1, Option.bind_some, if_pos (by simp only [ByteArray.size_append, be1_size, be2_size, be4_size]; omega)]
      rw [ref_Num_1, Option.bind_some, if_pos (by simp only [ByteArray.size_append, be1_size, be2_size, be4_size]; omega)]
      rw [ref_Num_1, Option.bind_some, if_pos (by simp only [ByteArray.size_append, be1_size, be2_size, be4_size]; omega)]
      rw [ref_Num_4, Option.bind_some, if_pos (by simp only [ByteArray.size_append, be1_size, be2_size, be4_size]; omega)]
      rw [ref_Num_2, Option.bind_some, if_pos (by simp only [ByteArray.size_append, be1_size, be2_size, be4_size]; omega)]
      rw [ref_Num_2, Option.bind_some, if_pos (by simp only [ByteArray.size_append, be1_size, be2_size, be4_size]; omega)]
      rw [ref_Num_4, Option.bind_some, if_pos (by simp only [ByteArray.size_append, be1_size, be2_size, be4_size]; omega)]
      rw [ref_Num_4, Option.bind_some, if_pos (by simp only [ByteArray.size_append, be1_size, be2_size, be4_size]; omega)]
      rw [ref_Num_4, Option.bind_some, if_pos (by simp only [ByteArray.size_append, be1_size, be2_size, be4_size]; omega)]
      rw [ref_Num_4, Option.bind_some, if_pos (by simp only [ByteArray.size_append, be1_size, be2_size, be4_size]; omega)]
      rw [if_pos (by simp only [ByteArray.size_append, be1_size, be2_size, be4_size]; omega)]
      have hw : wrap64 (236 - ((be1 a0 ++ be1 a1 ++ be1 (a10.size : Int) ++ be1 a2 ++ be4 a3 ++ be2 a4 ++ be2 a5 ++ be4 a6 ++ be4 a7 ++ be4 a8 ++ be4 a9 ++ a10).size : Int)) = ((208 - a10.size : Nat) : Int) := by
        simp only [ByteArray.size_append, be1_size, be2_size, be4_size]
        exact put_arith a10.size h16
      rw [hw, if_pos (by omega), Int.toNat_natCast, if_pos (by omega), Option.bind_some, str_zeros]
      have hsz : (ByteArray.mk (Array.replicate (208 - a10.size) (0 : UInt8))).size = 208 - a10.size := Array.size_replicate
      rw [if_pos (by simp only [ByteArray.size_append, be1_size, be2_size, be4_size, hsz]; omega), ref_Num_4, Option.bind_some, if_pos (by simp only [ByteArray.size_append, be1_size, be2_size, be4_size, hsz]; omega), if_pos (by simp only [ByteArray.size_append, be1_size, be2_size, be4_size, hsz]; omega)]
      congr 2
  · rw [if_neg hm, if_neg (fun h => hm h.1)]
theorem spoil_some (d : Nat) : ∀ (l : List S102) (i k : Nat), l.length - i = d → i ≤ l.length → l.length ≤ 1099511627776 → d + 1 ≤ k → ∃ r, pinfoldlaw0_SpoilOptions.l0 k l (i : Int) = some r := by
  induction d with
  | zero =>
    intro l i k hd hi hl hk
    obtain ⟨m, rfl⟩ : ∃ m, k = m + 1 := ⟨k - 1, by omega⟩
    exact ⟨l, by rw [pinfoldlaw0_SpoilOptions.l0, if_neg (by omega)]⟩
  | succ d ih =>
    intro l i k hd hi hl hk
    obtain ⟨m, rfl⟩ : ∃ m, k = m + 1 := ⟨k - 1, by omega⟩
    obtain ⟨r, hr⟩ := ih (l.set (i : Int).toNat ⟨Go.bits .xor .i64 ((rd_T102 l (i : Int)).f0) 90, (rd_T102 l (i : Int)).f1⟩) (i + 1) m (by rw [List.length_set]; omega) (by rw [List.length_set]; omega) (by rw [List.length_set]; omega) (by omega)
    exact ⟨r, by rw [pinfoldlaw0_SpoilOptions.l0, if_pos (by omega), if_pos (by omega), next_nat i (by omega)]; exact hr⟩
theorem spoil_ok (l : List S102) (hl : l.length ≤ 1099511627776) : ∃ r, pinfoldlaw0_SpoilOptions.f (l.length + 1) l = some r := spoil_some l.length l 0 _ (by omega) (by omega) hl (by omega)
end Go.Proofs.Ytjiojpconkhdmaa.Fs

import Derived.Test.YtjiojpconkhdmaaCGBoth
import Derived.Test.YtjiojpconkhdmaaCGSame
namespace Go.Proofs.Ytjiojpconkhdmaa.Fs
open Go.RowKit Go.Maps Go.Proofs.YtjiojpconkhdmaaW.PrintWords Go.Proofs.YtjiojpconkhdmaaW.PrintLast Go.Proofs.YtjiojpconkhdmaaW.PrintMore
set_option linter.unusedVariables false
set_option linter.unusedSimpArgs false
set_option maxRecDepth 100000
def wC : ByteArray := ⟨#[97, 98, 99, 100, 101, 102]⟩
def wO : List S102 := [⟨53, ⟨#[1]⟩⟩]
def wL : List UInt8 := headB 1 1 0 258 0 0 0 0 0 0 wC ++ [53, 1, 1, 255]
def wS : ByteArray := ⟨wL.toArray⟩
theorem wO_bytes : optsB wO ++ [255] = [53, 1, 1, 255] := by
  unfold optsB wO
  simp only [List.flatMap_cons, List.flatMap_nil, List.append_nil]
  rw [optB_le _ _ (by decide)]
  rfl
theorem w_put : packet_Put.f 1 1 0 258 0 0 0 0 0 0 wC wO = some (wS, 0) := by
  unfold packet_Put.f
  rw [wO_bytes, if_pos ⟨by decide +kernel, by decide⟩]
  rfl
theorem wS_list : wS.data.toList = wL := rfl
theorem wL_len : wL.length = 244 := by decide +kernel
theorem wS_size : wS.size = 244 := by rw [size_of wS_list, wL_len]
theorem wS_ext (a b : Nat) (l : List UInt8) (h : (wL.take b).drop a = l) : wS.extract a b = ⟨l.toArray⟩ := mk_of ((ext_of wS_list a b).trans h)
theorem wS_a : wS.extract 0 8 = ⟨#[1, 1, 6, 0, 0, 0, 1, 2]⟩ := wS_ext 0 8 _ (by decide +kernel)
theorem wS_b : wS.extract 28 34 = wC := wS_ext 28 34 _ (by decide +kernel)
theorem wS_c : wS.extract 236 240 = ⟨#[99, 130, 83, 99]⟩ := wS_ext 236 240 _ (by decide +kernel)
theorem cookie_c : be4 1669485411 = ⟨#[99, 130, 83, 99]⟩ := by decide +kernel
theorem pcs_end (r : List UInt8) : pcs (255 :: r) = ([], true) := by unfold pcs; exact if_pos rfl
theorem getP_end (r : List UInt8) : getP (255 :: r) = ([], 0) := by unfold getP; rw [pcs_end]; rfl
theorem getP_one (b q : UInt8) (x : UInt8) (r : List UInt8) (hb : b ≠ 255) (hb0 : b ≠ 0) (hq : q = 1) : getP (b :: q :: x :: 255 :: r) = ([⟨(b.toNat : Int), ⟨#[x]⟩⟩], 0) := by
  subst hq
  have hp : pcs (b :: 1 :: x :: 255 :: r) = ([⟨(b.toNat : Int), ⟨#[x]⟩⟩], true) := by
    rw [pcs, if_neg hb, if_neg hb0]
    simp only [List.length_cons]
    rw [if_neg (by show ¬ (_ + 1 + 1 < 1); omega)]
    show (_ :: (pcs (255 :: r)).1, (pcs (255 :: r)).2) = _
    rw [pcs_end]
    rfl
  have hb2 := b.toNat_lt
  have h1 : 0 < b.toNat := Nat.pos_of_ne_zero (fun h => hb0 (UInt8.toNat_inj.1 h))
  have h2 : b.toNat ≠ 255 := fun h => hb (UInt8.toNat_inj.1 h)
  have hj : joinAll [] [(⟨(b.toNat : Int), ⟨#[x]⟩⟩ : S102)] = [⟨(b.toNat : Int), ⟨#[x]⟩⟩] := rfl
  have hm : optsMay [(⟨(b.toNat : Int), ⟨#[x]⟩⟩ : S102)] = true := by
    unfold optsMay optsOk
    rw [if_neg]
    · rfl
    · simp only [List.not_mem_nil, false_or]
      have : (ByteArray.mk #[x]).size = 1 := rfl
      rw [this]
      omega
  unfold getP
  rw [hp]
  simp only
  rw [hj]
  simp only [hm, and_self, if_true]
theorem pk_num (s : ByteArray) (l : List UInt8) (hs : s.data.toList = l) (k : Nat) (hk : k < 11) (v : Int) (h : (numV 0 ((l.take (offK k + widK k)).drop (offK k)) : Int) = v) : numK s k = v := by
  obtain ⟨_, _, h3⟩ := offK_step k hk
  unfold numK
  rw [numAt_V s l hs _ _ (by omega), h]
theorem wS_numK (k : Nat) (hk : k < 11) : numK wS k = (numV 0 ((wL.take (offK k + widK k)).drop (offK k)) : Int) := pk_num wS wL wS_list k hk _ rfl
theorem wS_parts : partsP wL = (wO, true) := by
  unfold partsP
  have h : wL.drop 240 = [53, 1, 1, 255] := by decide +kernel
  obtain ⟨c1, c2, c3, c4, c5, c6, c7, c8⟩ := b11
  have hw : whereP wO = 0 := by decide +kernel
  have hm : optsMay wO = true := by decide +kernel
  rw [h, getP_one 53 1 1 [] (by decide) (by decide) rfl]
  have ho : ([⟨((53 : UInt8).toNat : Int), ⟨#[1]⟩⟩] : List S102) = wO := rfl
  rw [ho]
  simp only
  rw [hw, stepP_no c7, stepP_no c8]
  simp only [ne_eq, not_true_eq_false, if_false, hm, decide_true, Bool.and_self]
theorem wS_isPkt : isPkt wS = true := by
  unfold isPkt
  rw [wS_list, wS_parts, wS_numK 2 (by decide)]
  have h1 : decide (cookieOk wS) = true := decide_eq_true ⟨by rw [wS_size]; decide, by rw [wS_c, cookie_c]⟩
  rw [h1]
  decide +kernel
theorem w_get : packet_Get.f wS = some (1, 1, 0, 258, 0, 0, 0, 0, 0, 0, wC, wO, 0) := by
  unfold packet_Get.f getRes
  rw [if_pos (by rw [wS_size]; decide), if_pos wS_isPkt, wS_list, wS_parts]
  rw [wS_numK 0 (by decide), wS_numK 1 (by decide), wS_numK 2 (by decide), wS_numK 3 (by decide), wS_numK 4 (by decide), wS_numK 5 (by decide), wS_numK 6 (by decide), wS_numK 7 (by decide), wS_numK 8 (by decide), wS_numK 9 (by decide), wS_numK 10 (by decide)]
  have e0 : (numV 0 ((wL.take (offK 0 + widK 0)).drop (offK 0)) : Int) = 1 := by decide +kernel
  have e1 : (numV 0 ((wL.take (offK 1 + widK 1)).drop (offK 1)) : Int) = 1 := by decide +kernel
  have e2 : (numV 0 ((wL.take (offK 2 + widK 2)).drop (offK 2)) : Int) = 6 := by decide +kernel
  have e3 : (numV 0 ((wL.take (offK 3 + widK 3)).drop (offK 3)) : Int) = 0 := by decide +kernel
  have e4 : (numV 0 ((wL.take (offK 4 + widK 4)).drop (offK 4)) : Int) = 258 := by decide +kernel
  have e5 : (numV 0 ((wL.take (offK 5 + widK 5)).drop (offK 5)) : Int) = 0 := by decide +kernel
  have e6 : (numV 0 ((wL.take (offK 6 + widK 6)).drop (offK 6)) : Int) = 0 := by decide +kernel
  have e7 : (numV 0 ((wL.take (offK 7 + widK 7)).drop (offK 7)) : Int) = 0 := by decide +kernel
  have e8 : (numV 0 ((wL.take (offK 8 + widK 8)).drop (offK 8)) : Int) = 0 := by decide +kernel
  have e9 : (numV 0 ((wL.take (offK 9 + widK 9)).drop (offK 9)) : Int) = 0 := by decide +kernel
  have e10 : (numV 0 ((wL.take (offK 10 + widK 10)).drop (offK 10)) : Int) = 0 := by decide +kernel
  rw [e0, e1, e2, e3, e4, e5, e6, e7, e8, e9, e10]
  rw [show 28 + (6 : Int).toNat = 34 from rfl, wS_b]
end Go.Proofs.Ytjiojpconkhdmaa.Fs

namespace Go.Proofs.Ytjiojpconkhdmaa.Fs
open Go.RowKit Go.Maps Go.Proofs.YtjiojpconkhdmaaW.PrintWords Go.Proofs.YtjiojpconkhdmaaW.PrintLast Go.Proofs.YtjiojpconkhdmaaW.PrintMore
set_option linter.unusedVariables false
set_option linter.unusedSimpArgs false
set_option maxRecDepth 100000
theorem same_l0 (l : List S102) (hl : l.length ≤ 1099511627776) : ∀ (d i k : Nat), l.length - i = d → i ≤ l.length → d + 1 ≤ k → pinfoldlaw0_SameOptions.l0 k l l (i : Int) = some true
  | 0, i, k, hd, hi, hk => by
    obtain ⟨m, rfl⟩ : ∃ m, k = m + 1 := ⟨k - 1, by omega⟩
    rw [pinfoldlaw0_SameOptions.l0, if_neg (by omega)]
  | d + 1, i, k, hd, hi, hk => by
    obtain ⟨m, rfl⟩ : ∃ m, k = m + 1 := ⟨k - 1, by omega⟩
    rw [pinfoldlaw0_SameOptions.l0, if_pos (by omega), if_pos (by omega), if_pos (by omega), if_neg (by simp), next_nat i (by omega)]
    exact same_l0 l hl d (i + 1) m (by omega) (by omega) (by omega)
theorem same_options (l : List S102) (hl : l.length ≤ 1099511627776) (k : Nat) (hk : l.length + 1 ≤ k) : pinfoldlaw0_SameOptions.f k l l = some true := by
  unfold pinfoldlaw0_SameOptions.f
  rw [if_pos rfl]
  exact same_l0 l hl l.length 0 k (by omega) (by omega) hk
def wP : ByteArray := wS.extract 0 44 ++ ⟨#[12, 1, 121, 255]⟩ ++ wS.extract 48 108 ++ ⟨#[12, 1, 122, 255]⟩ ++ wS.extract 112 240 ++ ⟨#[52, 1, 3, 255]⟩
def wPL : List UInt8 := (wL.take 44).drop 0 ++ [12, 1, 121, 255] ++ (wL.take 108).drop 48 ++ [12, 1, 122, 255] ++ (wL.take 240).drop 112 ++ [52, 1, 3, 255]
theorem wP_list : wP.data.toList = wPL := by
  unfold wP wPL
  simp only [ByteArray.data_append, Array.toList_append, ext_of wS_list]
def wZ : List S102 := [⟨12, ⟨#[122, 121]⟩⟩]
theorem wP_parts : partsP wPL = (wZ, true) := by
  obtain ⟨c1, c2, c3, c4, c5, c6, c7, c8⟩ := b11
  unfold partsP
  have h : wPL.drop 240 = [52, 1, 3, 255] := by decide +kernel
  have h1 : (wPL.take 236).drop 108 = 12 :: 1 :: 122 :: 255 :: ((wPL.take 236).drop 112) := by decide +kernel
  have h2 : (wPL.take 108).drop 44 = 12 :: 1 :: 121 :: 255 :: ((wPL.take 108).drop 48) := by decide +kernel
  rw [h, getP_one 52 1 3 [] (by decide) (by decide) rfl]
  have hw : whereP [(⟨((52 : UInt8).toNat : Int), ⟨#[3]⟩⟩ : S102)] = 3 := by decide +kernel
  simp only
  rw [hw, stepP_yes c5 rfl, h1, getP_one 12 1 122 _ (by decide) (by decide) rfl, stepP_yes c6 rfl, h2, getP_one 12 1 121 _ (by decide) (by decide) rfl]
  simp only
  have hj : noOv (joinAll (joinAll [(⟨((52 : UInt8).toNat : Int), ⟨#[3]⟩⟩ : S102)] [⟨((12 : UInt8).toNat : Int), ⟨#[122]⟩⟩]) [⟨((12 : UInt8).toNat : Int), ⟨#[121]⟩⟩]) = wZ := rfl
  have hm : optsMay wZ = true := by decide +kernel
  rw [if_pos (by decide), hj, hm]
  rfl
theorem wP_size : wP.size = 244 := by rw [size_of wP_list]; decide +kernel
theorem wP_isPkt : isPkt wP = true := by
  unfold isPkt
  rw [wP_list, wP_parts, pk_num wP wPL wP_list 2 (by decide) _ rfl]
  have hc : wP.extract 236 240 = ⟨#[99, 130, 83, 99]⟩ := mk_of ((ext_of wP_list 236 240).trans (show (wPL.take 240).drop 236 = [99, 130, 83, 99] by decide +kernel))
  have h1 : decide (cookieOk wP) = true := decide_eq_true ⟨by rw [wP_size]; decide, by rw [hc, cookie_c]⟩
  rw [h1]
  decide +kernel
theorem w_get2 : packet_Get.f wP = some (numK wP 0, numK wP 1, numK wP 3, numK wP 4, numK wP 5, numK wP 6, numK wP 7, numK wP 8, numK wP 9, numK wP 10, wP.extract 28 (28 + (numK wP 2).toNat), wZ, 0) := by
  unfold packet_Get.f getRes
  rw [if_pos (by rw [wP_size]; decide), if_pos wP_isPkt, wP_list, wP_parts]
theorem w_get3 : packet_Get.f (wS.extract 0 239) = some (0, 0, 0, 0, 0, 0, 0, 0, 0, 0, ⟨#[]⟩, [], 700) := by
  have hs : (wS.extract 0 239).size = 239 := by rw [ByteArray.size_extract, wS_size]; rfl
  have hp : isPkt (wS.extract 0 239) = false := by
    unfold isPkt
    rw [decide_eq_false (fun h => by have := h.1; rw [hs] at this; omega)]
    rfl
  unfold packet_Get.f getRes
  rw [if_pos (by rw [hs]; decide), hp]
  rfl
def w17 : ByteArray := ⟨#[49, 50, 51, 52, 53, 54, 55, 56, 57, 48, 49, 50, 51, 52, 53, 54, 55]⟩
theorem w_put2 : packet_Put.f 0 0 0 0 0 0 0 0 0 0 w17 [] = some (⟨#[]⟩, 700) := by
  unfold packet_Put.f
  have h : decide (w17.size ≤ 16) = false := by decide
  rw [h, Bool.false_and, Bool.false_and, if_neg (by simp)]
theorem w_may : packet_May.f 1 1 0 258 0 0 0 0 0 0 wC wO = some true := by
  unfold packet_May.f
  exact congrArg some (by decide +kernel)
end Go.Proofs.Ytjiojpconkhdmaa.Fs

import Derived.Test.YtjiojpconkhdmaaCF82
import Derived.Test.YtjiojpconkhdmaaCGPacketPut
import Derived.Test.YtjiojpconkhdmaaCGJoin
import Derived.Test.YtjiojpconkhdmaaCM1
namespace Go.Proofs.Ytjiojpconkhdmaa.Fs
open Go.RowKit Go.Maps Go.Proofs.YtjiojpconkhdmaaW.PrintWords Go.Proofs.YtjiojpconkhdmaaW.PrintLast Go.Proofs.YtjiojpconkhdmaaW.PrintMore
set_option linter.unusedVariables false
set_option linter.unusedSimpArgs false
theorem size_of {s : ByteArray} {l : List UInt8} (h : s.data.toList = l) : s.size = l.length := by rw [← h, data_length]
theorem toList_of {s : ByteArray} {l : List UInt8} (h : s.data.toList = l) : s.toList = l := by rw [Lib.toList_data, h]
theorem bt_of {s : ByteArray} {l : List UInt8} (h : s.data.toList = l) (i : Nat) (hi : i < l.length) : bt s (i : Int) = ((l[i]'hi).toNat : Int) := by
  subst h
  have h2 : i < s.size := by rw [← data_length]; exact hi
  simp [bt, h2]
  rfl
theorem ext_of {s : ByteArray} {l : List UInt8} (h : s.data.toList = l) (a b : Nat) : (s.extract a b).data.toList = (l.take b).drop a := by
  rw [ByteArray.data_extract, ← h]
  simp [List.extract_eq_take_drop, List.drop_take]
theorem mk_of {s : ByteArray} {l : List UInt8} (h : s.data.toList = l) : s = ⟨l.toArray⟩ := by
  subst h
  rfl
theorem size_mk (l : List UInt8) : (ByteArray.mk l.toArray).size = l.length := by show l.toArray.size = _; simp
/-- Options as they stand; false: one is not whole. -/
def pcs : List UInt8 → List S102 × Bool
  | [] => ([], true)
  | b :: r =>
    if b = 255 then ([], true)
    else if b = 0 then pcs r
    else match r with
      | [] => ([], false)
      | n :: d => if d.length < n.toNat then ([], false) else
          (⟨(b.toNat : Int), ⟨(d.take n.toNat).toArray⟩⟩ :: (pcs (d.drop n.toNat)).1, (pcs (d.drop n.toNat)).2)
termination_by l => l.length
decreasing_by all_goals (simp; try omega)
def getP (l : List UInt8) : List S102 × Int := if (pcs l).2 = true ∧ optsMay (joinAll [] (pcs l).1) = true then (joinAll [] (pcs l).1, 0) else ([], 600)
theorem pcs_range : ∀ (n : Nat) (l : List UInt8), l.length ≤ n → ∀ o ∈ (pcs l).1, 0 ≤ o.f0 ∧ o.f0 ≤ 255
  | n, [], _ => by simp [pcs]
  | 0, b :: r, h => by simp at h
  | n + 1, b :: r, h => by
    unfold pcs
    split
    · simp
    · split
      · exact pcs_range n r (by simp at h; omega)
      · cases r with
        | nil => simp
        | cons q d =>
          simp only
          split
          · simp
          · intro o ho
            rcases List.mem_cons.1 ho with rfl | ho
            · have := b.toNat_lt
              simp only
              omega
            · exact pcs_range n (d.drop q.toNat) (by simp at h ⊢; omega) o ho
theorem pcs_tot : ∀ (n : Nat) (l : List UInt8), l.length ≤ n → tot (pcs l).1 ≤ l.length ∧ (pcs l).1.length ≤ l.length
  | n, [], _ => by simp [pcs, tot]
  | 0, b :: r, h => by simp at h
  | n + 1, b :: r, h => by
    unfold pcs
    split
    · simp [tot]
    · split
      · have := pcs_tot n r (by simp at h; omega)
        simp; omega
      · cases r with
        | nil => simp [tot]
        | cons q d =>
          simp only
          split
          · simp [tot]
          · rename_i hq
            have := pcs_tot n (d.drop q.toNat) (by simp at h ⊢; omega)
            simp only [tot, List.map_cons, List.sum_cons, List.length_cons, List.length_drop] at this ⊢
            have e : (ByteArray.mk (d.take q.toNat).toArray).size = min q.toNat d.length := by rw [size_mk, List.length_take]
            rw [e]
            omega
theorem pcs_arith (d q b : Nat) (hq : q < 256) (hb : b < 256) (hd : d ≤ 1099511627776) : wrap64 (q : Int) = (q : Int) ∧ wrap64 (2 + (q : Int)) = 2 + (q : Int) ∧ wrap64 (((d + 1 : Nat) : Int) + 1 - 2) = (d : Int) ∧ wrap64 (b : Int) = (b : Int) ∧ ((2 : Int) + (q : Int)).toNat = q + 2 ∧ ¬ (((d + 1 : Nat) : Int) + 1 < 2) ∧ 1 < (((d + 1 : Nat) : Int) + 1) ∧ (2 : Int) ≤ 2 + (q : Int) ∧ (0 : Int) ≤ 2 + (q : Int) ∧ ((d : Int) < (q : Int) ↔ d < q) ∧ (2 + (q : Int) ≤ ((d + 1 : Nat) : Int) + 1 ↔ q ≤ d) := by
  unfold wrap64
  refine ⟨by omega, by omega, by omega, by omega, by omega, by omega, by omega, by omega, by omega, by omega, by omega⟩
theorem len_small {x d : Nat} (h : x + (d + 1 + 1) ≤ 1099511627776) : x < 5864062014805 ∧ d ≤ 1099511627776 := by omega
theorem len_rec {x d n m q B : Nat} (h : d + 1 + 1 ≤ n + 1) (hk : 2 * (d + 1 + 1) + 2 ≤ m + 2) (hx : x + (d + 1 + 1) ≤ B) : d - q ≤ n ∧ 2 * (d - q) + 2 ≤ m ∧ (x + 1) + (d - q) ≤ B := by omega
theorem pieces_eq : ∀ (n : Nat) (l : List UInt8), l.length ≤ n → ∀ (s : ByteArray), s.data.toList = l → ∀ (k : Nat) (x4 : List S102), 2 * l.length + 2 ≤ k → x4.length + l.length ≤ 1099511627776 →
    opts_pieces.l0 k s x4 = some (if (pcs l).2 = true then (x4 ++ (pcs l).1, true) else ([], false))
  | n, [], _, s, hs, k, x4, hk, _ => by
    obtain ⟨m, rfl⟩ : ∃ m, k = m + 2 := ⟨k - 2, by simp at hk; omega⟩
    rw [opts_pieces.l0, if_pos (toList_of hs), opts_pieces.j1, if_neg (by simp)]
    simp [pcs]
  | 0, b :: r, h, _, _, _, _, _, _ => by simp at h
  | n + 1, b :: r, h, s, hs, k, x4, hk, hx => by
    have hb0 : bt s 0 = (b.toNat : Int) := bt_of hs 0 (by simp)
    have hbl := b.toNat_lt
    have hsz : (s.size : Int) = (r.length : Int) + 1 := by rw [size_of hs]; simp
    have hsN := size_of hs
    simp only [List.length_cons] at h hk hx hsN
    obtain ⟨m, rfl⟩ : ∃ m, k = m + 2 := ⟨k - 2, by omega⟩
    rw [opts_pieces.l0, if_neg (by rw [toList_of hs]; simp), if_pos (by rw [hsz]; omega), opts_pieces.j1, hb0, hsz]
    unfold pcs
    by_cases h255 : b = 255
    · subst h255
      rw [if_neg (by decide), if_pos rfl]
      simp
    · have hne : b.toNat ≠ 255 := fun e => h255 (UInt8.toNat_inj.1 e)
      rw [if_pos (by simp; omega), if_pos (by omega), if_neg h255]
      by_cases h0 : b = 0
      · subst h0
        rw [if_pos (by simp), if_pos (by omega), if_pos rfl]
        refine pieces_eq n r (by omega) _ ?_ m x4 (by omega) (by omega)
        rw [ext_of hs, hsN]
        simp
      · have hne0 : b.toNat ≠ 0 := fun e => h0 (UInt8.toNat_inj.1 e)
        rw [if_neg (by omega), if_neg h0]
        cases r with
        | nil => rw [if_pos (by simp)]; simp
        | cons q d =>
          have hb1 : bt s 1 = (q.toNat : Int) := bt_of hs 1 (by simp)
          simp only [List.length_cons] at h hk hx hsz hsN ⊢
          obtain ⟨hx4, hdl⟩ := len_small hx
          obtain ⟨w1, w2, w3, w4, e1, c1, c2, c3, c4, c5, c6⟩ := pcs_arith d.length q.toNat b.toNat q.toNat_lt hbl hdl
          rw [if_neg c1, if_pos c2, hb1, w1, w2, w3, w4, e1]
          have e2 : (s.extract (q.toNat + 2) s.size).data.toList = d.drop q.toNat := by rw [ext_of hs, hsN, List.take_of_length_le (by simp)]; rfl
          have e3 : s.extract 2 (q.toNat + 2) = ⟨(d.take q.toNat).toArray⟩ := mk_of (by rw [ext_of hs]; simp)
          by_cases hd : d.length < q.toNat
          · rw [if_pos (c5.2 hd), if_pos hd]
            simp
          · rw [if_neg (fun h => hd (c5.1 h)), if_neg hd, if_pos c3, if_pos (c6.2 (Nat.not_lt.1 hd)), if_pos hx4, if_pos c4, e3]
            have hrec := pieces_eq n (d.drop q.toNat) (by rw [List.length_drop]; exact (len_rec h hk hx).1) _ e2 m (x4 ++ [⟨(b.toNat : Int), ⟨(d.take q.toNat).toArray⟩⟩]) (by rw [List.length_drop]; exact (len_rec h hk hx).2.1) (by rw [List.length_drop, List.length_append, List.length_singleton]; exact (len_rec h hk hx).2.2)
            rw [hrec]
            simp
theorem opts_Get_eq (s : ByteArray) (l : List UInt8) (hs : s.data.toList = l) (k : Nat) (hk : 2 * l.length + 2 ≤ k) (hl : l.length ≤ 1099511627776) : opts_Get.f k s = some (getP l) := by
  have hp := pieces_eq l.length l (Nat.le_refl _) s hs k [] hk (by simpa using hl)
  have hr := pcs_range l.length l (Nat.le_refl _)
  have ht := pcs_tot l.length l (Nat.le_refl _)
  unfold opts_Get.f opts_pieces.f getP
  rw [hp]
  cases h2 : (pcs l).2 with
  | false =>
    have hj : opts_Join.f [] [] = some [] := by unfold opts_Join.f; rw [if_pos ⟨by simp [codes], by simp, by simp [tot], by simp⟩]; rfl
    simp [hj]
  | true =>
    have hj : opts_Join.f [] (pcs l).1 = some (joinAll [] (pcs l).1) := by
      unfold opts_Join.f
      rw [if_pos ⟨by simp [codes], by simpa using hr, by simp [tot] at ht ⊢; omega, by simp; omega⟩]
    simp only [if_true, List.nil_append, Option.bind_some, hj, opts_May.f]
    change (if optsMay (joinAll [] (pcs l).1) = true then _ else _) = _
    by_cases hm : optsMay (joinAll [] (pcs l).1) = true
    · simp [hm]
    · simp [hm]
end Go.Proofs.Ytjiojpconkhdmaa.Fs

namespace Go.Proofs.Ytjiojpconkhdmaa.Fs
open Go.RowKit Go.Maps Go.Proofs.YtjiojpconkhdmaaW.PrintWords Go.Proofs.YtjiojpconkhdmaaW.PrintLast Go.Proofs.YtjiojpconkhdmaaW.PrintMore
set_option linter.unusedVariables false
set_option linter.unusedSimpArgs false
/-- The data of a code's first option. -/
def findP (c : Int) : List S102 → ByteArray × Bool
  | [] => (⟨#[]⟩, false)
  | o :: r => if o.f0 = c then (o.f1, true) else findP c r
theorem next_nat (i : Nat) (h : i ≤ 1099511627776) : wrap64 ((i : Int) + 1) = ((i + 1 : Nat) : Int) := by unfold wrap64; omega
theorem find_l (c : Int) (l : List S102) (hl : l.length ≤ 1099511627776) : ∀ (n i k : Nat), l.length - i ≤ n → n + 1 ≤ k → i ≤ l.length → opts_Find.l0 k c l (l.length : Int) (i : Int) = some (findP c (l.drop i))
  | 0, i, k, hn, hk, hi => by
    obtain ⟨m, rfl⟩ : ∃ m, k = m + 1 := ⟨k - 1, by omega⟩
    have e : i = l.length := by omega
    rw [opts_Find.l0, if_neg (by omega), e, List.drop_length]
    rfl
  | n + 1, i, k, hn, hk, hi => by
    obtain ⟨m, rfl⟩ : ∃ m, k = m + 1 := ⟨k - 1, by omega⟩
    by_cases h : i < l.length
    · rw [opts_Find.l0, if_pos (by omega), if_pos (by omega), if_pos (by omega), rd_drop l i h]
      simp only [findP]
      by_cases hc : (rd_T102 l (i : Int)).f0 = c
      · rw [if_pos hc, if_pos hc]
      · rw [if_neg hc, if_neg hc, next_nat i (by omega)]
        exact find_l c l hl n (i + 1) m (by omega) (by omega) h
    · have e : i = l.length := by omega
      rw [opts_Find.l0, if_neg (by omega), e, List.drop_length]
      rfl
theorem opts_Find_eq (c : Int) (l : List S102) (hl : l.length ≤ 1099511627776) (k : Nat) (hk : l.length + 1 ≤ k) : opts_Find.f k l c = some (findP c l) := find_l c l hl l.length 0 k (by omega) hk (by omega)
theorem rfind_l (c : Int) (l : List S102) (hl : l.length ≤ 1099511627776) : ∀ (n i k : Nat), l.length - i ≤ n → n + 1 ≤ k → i ≤ l.length → pinfoldref1_FindOpt.l0 k l c (i : Int) = some (findP c (l.drop i))
  | 0, i, k, hn, hk, hi => by
    obtain ⟨m, rfl⟩ : ∃ m, k = m + 1 := ⟨k - 1, by omega⟩
    have e : i = l.length := by omega
    rw [pinfoldref1_FindOpt.l0, if_neg (by omega), e, List.drop_length]
    rfl
  | n + 1, i, k, hn, hk, hi => by
    obtain ⟨m, rfl⟩ : ∃ m, k = m + 1 := ⟨k - 1, by omega⟩
    by_cases h : i < l.length
    · rw [pinfoldref1_FindOpt.l0, if_pos (by omega), if_pos (by omega), rd_drop l i h]
      simp only [findP]
      by_cases hc : (rd_T102 l (i : Int)).f0 = c
      · rw [if_pos hc, if_pos hc]
      · rw [if_neg hc, if_neg hc, next_nat i (by omega)]
        exact rfind_l c l hl n (i + 1) m (by omega) (by omega) h
    · have e : i = l.length := by omega
      rw [pinfoldref1_FindOpt.l0, if_neg (by omega), e, List.drop_length]
      rfl
theorem ref_Find_eq (c : Int) (l : List S102) (hl : l.length ≤ 1099511627776) (k : Nat) (hk : l.length + 1 ≤ k) : pinfoldref1_FindOpt.f k l c = some (findP c l) := rfind_l c l hl l.length 0 k (by omega) hk (by omega)
end Go.Proofs.Ytjiojpconkhdmaa.Fs

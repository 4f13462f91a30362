import Derived.Test.YtjiojpconkhdmaaCGGet
import Derived.Test.YtjiojpconkhdmaaCM8
import Derived.Test.YtjiojpconkhdmaaCM1
import Derived.Test.YtjiojpconkhdmaaCF19
namespace Go.Proofs.Ytjiojpconkhdmaa.Fs
open Go.RowKit Go.Maps Go.Proofs.YtjiojpconkhdmaaW.PrintWords Go.Proofs.YtjiojpconkhdmaaW.PrintLast Go.Proofs.YtjiojpconkhdmaaW.PrintMore
set_option linter.unusedVariables false
set_option linter.unusedSimpArgs false
theorem rarith (a i n N : Nat) (hi : i < n) (ha : a + n ≤ N) (hN : N ≤ 1000000000000) : wrap64 ((a : Int) + (i : Int)) = ((a + i : Nat) : Int) ∧ (0 : Int) ≤ ((a + i : Nat) : Int) ∧ ((a + i : Nat) : Int) < (N : Int) ∧ wrap64 ((i : Int) + 1) = ((i + 1 : Nat) : Int) ∧ (i : Int) < (n : Int) := by
  unfold wrap64
  refine ⟨?_, ?_, ?_, ?_, ?_⟩ <;> omega
theorem numFrom_append (x : Int) (l r : List Int) : numFrom x (l ++ r) = numFrom (numFrom x l) r := by
  induction l generalizing x with
  | nil => rfl
  | cons a l ih => exact ih _
theorem bytesOf_cons (s : ByteArray) (a b : Nat) (h : a < b) (hb : b ≤ s.size) : bytesOf (s.extract a b) = bt s (a : Int) :: bytesOf (s.extract (a + 1) b) := by
  have hl : a < s.data.toList.length := by rw [data_length]; omega
  unfold bytesOf
  rw [ext_of (rfl : s.data.toList = s.data.toList), ext_of (rfl : s.data.toList = s.data.toList), bt_of rfl a hl]
  rw [List.drop_take, List.drop_take, List.drop_eq_getElem_cons hl]
  rw [show b - a = (b - (a + 1)) + 1 by omega, List.take_succ_cons, List.map_cons]
theorem getBe_l0 (s : ByteArray) (a n : Nat) (ha : a + n ≤ s.size) (hN : s.size ≤ 1000000000000) : ∀ (d i k : Nat) (x : Int), n - i = d → i ≤ n → d + 1 ≤ k →
    pinfoldref1_GetBe.l0 k s (a : Int) (n : Int) x (i : Int) = some (numFrom x (bytesOf (s.extract (a + i) (a + n))), 0)
  | 0, i, k, x, hd, hi, hk => by
    obtain ⟨m, rfl⟩ : ∃ m, k = m + 1 := ⟨k - 1, by omega⟩
    have e : i = n := by omega
    subst e
    have h0 : bytesOf (s.extract (a + i) (a + i)) = [] := by
      apply List.eq_nil_of_length_eq_zero
      rw [bytesOf_length, ByteArray.size_extract]; omega
    rw [pinfoldref1_GetBe.l0, if_neg (by omega), h0]
    rfl
  | d + 1, i, k, x, hd, hi, hk => by
    obtain ⟨m, rfl⟩ : ∃ m, k = m + 1 := ⟨k - 1, by omega⟩
    obtain ⟨w1, w2, w3, w4, w5⟩ := rarith a i n s.size (by omega) ha hN
    rw [pinfoldref1_GetBe.l0, if_pos w5, w1, if_pos w2, if_pos w3, w4, bytesOf_cons s (a + i) (a + n) (by omega) ha]
    exact getBe_l0 s a n ha hN d (i + 1) m _ (by omega) (by omega) (by omega)
theorem rarith2 (a n N : Nat) (ha : a + n ≤ N) (hN : N ≤ 1000000000000) : ¬ ((a : Int) > (N : Int)) ∧ decide (wrap64 ((N : Int) - (a : Int)) < (n : Int)) = false ∧ decide ((a : Int) < 0) = false ∧ wrap64 ((a : Int) + (n : Int)) = ((a + n : Nat) : Int) := by
  refine ⟨by omega, decide_eq_false ?_, decide_eq_false (by omega), ?_⟩ <;> unfold wrap64 <;> omega
theorem getBe_eq (s : ByteArray) (a n : Nat) (hn : n = 1 ∨ n = 2 ∨ n = 4) (ha : a + n ≤ s.size) (hN : s.size ≤ 1000000000000) : pinfoldref1_GetBe.f 7 s (a : Int) (n : Int) = some (numAt s a n, 0) := by
  obtain ⟨w1, w2, w3, _⟩ := rarith2 a n s.size ha hN
  have hj : pinfoldref1_GetBe.j0 7 s (a : Int) (n : Int) (decide ((a : Int) < 0)) = some (numAt s a n, 0) := by
    rw [w3, pinfoldref1_GetBe.j0, if_neg (by simp), if_neg w1, w2, pinfoldref1_GetBe.j1, if_neg (by simp)]
    have := getBe_l0 s a n ha hN n 0 5 0 (by omega) (by omega) (by omega)
    rw [Nat.add_zero] at this
    exact this
  unfold pinfoldref1_GetBe.f
  rcases hn with rfl | rfl | rfl
  · rw [if_pos (by rfl)]; exact hj
  · rw [if_neg (by decide), if_pos (by rfl)]; exact hj
  · rw [if_neg (by decide), if_neg (by decide), if_pos (by rfl)]; exact hj
theorem reader_k (s : ByteArray) (k : Nat) (h : k < 11) (h28 : 28 ≤ s.size) (hN : s.size ≤ 1000000000000) : pinfoldref1_reader_num.f 7 s (offK k : Int) false (widK k : Int) = some (numK s k, s, (offK (k + 1) : Int), false) := by
  obtain ⟨h1, h2, h3⟩ := offK_step k h
  have hg := getBe_eq s (offK k) (widK k) h3 (by omega) hN
  have hw := (rarith2 (offK k) (widK k) s.size (by omega) hN).2.2.2
  unfold pinfoldref1_reader_num.f
  rw [hg, Option.bind_some, hw, h1, if_neg (by simp), if_pos rfl]
  rfl
/-- The reader in its block, a packet in another one, the place of the result. -/
structure RD (w0 w : World) (s : ByteArray) (g gp gr : Nat) (pc : Array Value) (k : Nat) : Prop where
  r : IsS96 w0 w g s (offK k : Int) false
  p : w.heap[gp]? = some (.cells pc 24 (0, 0))
  z : w.heap[gr]? = some (.cells zero24 24 (0, 0))
  b : Below w0.heap.size w0 w
  ne1 : gp ≠ g
  ne2 : gr ≠ g
  ne3 : gp ≠ gr
theorem RD.set {w0 w : World} {s : ByteArray} {g gp gr : Nat} {pc : Array Value} {k : Nat} (h : RD w0 w s g gp gr pc k) (hg : w0.heap.size ≤ gp) (j : Nat) (v : Value) : RD w0 (w.setCell ⟨gp, j, none⟩ v) s g gp gr (pc.setIfInBounds j v) k :=
  ⟨h.r.far h.ne1.symm v, blk_set h.p j v, blk_far h.z h.ne3.symm v, h.b.setCell hg v, h.ne1, h.ne2, h.ne3⟩
theorem num_rd (s : ByteArray) (h28 : 28 ≤ s.size) (hN : s.size ≤ 1000000000000) (w0 w : World) (g gp gr : Nat) (pc : Array Value) (k : Nat) (hk : k < 11) (n : Int) (hn : n = (widK k : Int)) (h : RD w0 w s g gp gr pc k) :
    Calls Try.prog 45 #[.pointer (some ⟨g, 0, none⟩), .int .i64 n] w fun e w' => e = .returned (.int .i64 (numK s k)) ∧ RD w0 w' s g gp gr pc (k + 1) := by
  subst hn
  refine (pinfoldref1_reader_num.calls 7 g s (offK k : Int) false (widK k : Int) (numK s k) s (offK (k + 1) : Int) false w0 w h.r h.b (reader_k s k hk h28 hN)).mono ?_
  rintro e w' ⟨rfl, h1, h2, h3⟩
  exact ⟨rfl, ⟨h1, h3.blk h.p h.ne1 (by simp), h3.blk h.z h.ne2 (by simp), h2, h.ne1, h.ne2, h.ne3⟩⟩
end Go.Proofs.Ytjiojpconkhdmaa.Fs

namespace Go.Proofs.Ytjiojpconkhdmaa.Fs
open Go.RowKit Go.Maps Go.Proofs.YtjiojpconkhdmaaW.PrintWords Go.Proofs.YtjiojpconkhdmaaW.PrintLast Go.Proofs.YtjiojpconkhdmaaW.PrintMore
set_option linter.unusedVariables false
set_option linter.unusedSimpArgs false
/-- The options of all parts, in the reference's way; false: some are refused. -/
def refParts (l : List UInt8) : List S102 × Bool :=
  if (getP (l.drop 240)).2 ≠ 0 then ([], false)
  else if whereP (getP (l.drop 240)).1 = 0 then ((getP (l.drop 240)).1, true)
  else
    let o1 := if whereP (getP (l.drop 240)).1 ≠ 2 then overP (noOv (getP (l.drop 240)).1) ((l.take 236).drop 108) else (noOv (getP (l.drop 240)).1, true)
    if o1.2 = true ∧ whereP (getP (l.drop 240)).1 ≠ 1 then overP o1.1 ((l.take 108).drop 44) else o1
theorem idxOf_noOv (c : Int) (hc : c ≠ 52) : ∀ (l : List S102), (idxOf c l = none → idxOf c (noOv l) = none) ∧ (∀ i, idxOf c l = some i → ∃ j, idxOf c (noOv l) = some j ∧ (noOv l).getD j z102 = l.getD i z102 ∧ ∀ x : S102, x.f0 ≠ 52 → noOv (l.set i x) = (noOv l).set j x)
  | [] => by simp [idxOf, noOv]
  | a :: r => by
    obtain ⟨h1, h2⟩ := idxOf_noOv c hc r
    have hn : noOv (a :: r) = if a.f0 = 52 then noOv r else a :: noOv r := by
      unfold noOv isOv
      rw [List.filter_cons]
      by_cases h : a.f0 = 52 <;> simp [h]
    by_cases ha : a.f0 = c
    · have h52 : a.f0 ≠ 52 := by rw [ha]; exact hc
      rw [hn, if_neg h52]
      refine ⟨fun h => by simp [idxOf, ha] at h, fun i hi => ?_⟩
      have : i = 0 := by simpa [idxOf, ha] using hi.symm
      subst this
      refine ⟨0, by simp [idxOf, ha], rfl, fun x hx => ?_⟩
      show noOv (x :: r) = x :: noOv r
      unfold noOv isOv
      rw [List.filter_cons]
      simp [hx]
    · refine ⟨fun h => ?_, fun i hi => ?_⟩
      · have hr : idxOf c r = none := by
          cases hx : idxOf c r with
          | none => rfl
          | some j => simp [idxOf, ha, hx] at h
        rw [hn]
        split
        · exact h1 hr
        · simp [idxOf, ha, h1 hr]
      · cases hx : idxOf c r with
        | none => simp [idxOf, ha, hx] at hi
        | some k =>
          have hik : i = k + 1 := by simpa [idxOf, ha, hx] using hi.symm
          subst hik
          obtain ⟨j, g1, g2, g3⟩ := h2 k hx
          by_cases h52 : a.f0 = 52
          · rw [hn, if_pos h52]
            refine ⟨j, g1, by rw [g2]; simp, fun x hx2 => ?_⟩
            rw [← g3 x hx2]
            show noOv (a :: r.set k x) = _
            unfold noOv isOv
            rw [List.filter_cons]
            simp [h52]
          · rw [hn, if_neg h52]
            refine ⟨j + 1, by simp [idxOf, ha, g1], by simpa using g2, fun x hx2 => ?_⟩
            show noOv (a :: r.set k x) = a :: (noOv r).set j x
            rw [← g3 x hx2]
            unfold noOv isOv
            rw [List.filter_cons]
            simp [h52]
theorem noOv_set52 : ∀ (l : List S102) (i : Nat) (x : S102), x.f0 = 52 → i < l.length → (l.getD i z102).f0 = 52 → noOv (l.set i x) = noOv l
  | [], i, x, _, h, _ => by simp at h
  | a :: r, 0, x, hx, _, ha => by
    have ha' : a.f0 = 52 := by simpa using ha
    show noOv (x :: r) = noOv (a :: r)
    unfold noOv isOv
    simp [List.filter_cons, hx, ha']
  | a :: r, i + 1, x, hx, h, ha => by
    have := noOv_set52 r i x hx (by simpa using h) (by simpa using ha)
    show noOv (a :: r.set i x) = noOv (a :: r)
    unfold noOv at *
    rw [List.filter_cons, List.filter_cons, this]
theorem noOv_joinOne (l : List S102) (x : S102) : noOv (joinOne l x) = if x.f0 = 52 then noOv l else joinOne (noOv l) x := by
  unfold joinOne
  by_cases hx : x.f0 = 52
  · rw [if_pos hx]
    cases h : idxOf x.f0 l with
    | none =>
      simp only
      unfold noOv isOv
      rw [List.filter_append]
      simp [hx]
    | some i =>
      obtain ⟨h1, h2⟩ := idxOf_lt h
      exact noOv_set52 l i _ (by first | exact hx | (rw [h2]; exact hx)) h1 (by rw [h2]; exact hx)
  · rw [if_neg hx]
    obtain ⟨g1, g2⟩ := idxOf_noOv x.f0 hx l
    cases h : idxOf x.f0 l with
    | none =>
      rw [g1 h]
      simp only
      unfold noOv isOv
      rw [List.filter_append]
      simp [hx]
    | some i =>
      obtain ⟨j, k1, k2, k3⟩ := g2 i h
      rw [k1]
      simp only
      rw [k2]
      exact k3 _ hx
theorem noOv_joinAll (l xs : List S102) : noOv (joinAll l xs) = joinAll (noOv l) (noOv xs) := by
  induction xs generalizing l with
  | nil => rfl
  | cons a r ih =>
    have hl : joinAll l (a :: r) = joinAll (joinOne l a) r := rfl
    have hn : noOv (a :: r) = if a.f0 = 52 then noOv r else a :: noOv r := by
      unfold noOv isOv
      rw [List.filter_cons]
      by_cases h : a.f0 = 52 <;> simp [h]
    rw [hl, ih, noOv_joinOne, hn]
    split
    · rfl
    · rfl
theorem whereP_cases (l : List S102) : whereP l = 0 ∨ whereP l = 1 ∨ whereP l = 2 ∨ whereP l = 3 := by
  unfold whereP
  split
  · rename_i h
    have := bt_range (findP 52 l).1 0
    have := h.2.2
    omega
  · exact .inl rfl
theorem b11 : Go.bits .and .i64 1 1 ≠ 0 ∧ Go.bits .and .i64 1 2 = 0 ∧ Go.bits .and .i64 2 1 = 0 ∧ Go.bits .and .i64 2 2 ≠ 0 ∧ Go.bits .and .i64 3 1 ≠ 0 ∧ Go.bits .and .i64 3 2 ≠ 0 ∧ Go.bits .and .i64 0 1 = 0 ∧ Go.bits .and .i64 0 2 = 0 := by decide +kernel
theorem stepP_no {wh bit : Int} {l : List UInt8} {fr en : Nat} {p : List S102 × Int} (h : Go.bits .and .i64 wh bit = 0) : stepP wh l bit fr en p = p := by unfold stepP; rw [if_neg (fun g => g.1 h)]
theorem stepP_bad {wh bit : Int} {l : List UInt8} {fr en : Nat} {p : List S102 × Int} (h : p.2 ≠ 0) : stepP wh l bit fr en p = p := by unfold stepP; rw [if_neg (fun g => h g.2)]
theorem stepP_yes {wh bit : Int} {l : List UInt8} {fr en : Nat} {p : List S102 × Int} (h : Go.bits .and .i64 wh bit ≠ 0) (h2 : p.2 = 0) : stepP wh l bit fr en p = (joinAll p.1 (getP ((l.take en).drop fr)).1, (getP ((l.take en).drop fr)).2) := by unfold stepP; rw [if_pos ⟨h, h2⟩]
theorem parts_ref (l : List UInt8) : (partsP l).2 = ((refParts l).2 && optsMay (refParts l).1) ∧ ((refParts l).2 = true → (partsP l).1 = (refParts l).1) := by
  obtain ⟨c1, c2, c3, c4, c5, c6, c7, c8⟩ := b11
  unfold partsP refParts
  simp only
  generalize hp : getP (l.drop 240) = p
  obtain ⟨os, er⟩ := p
  by_cases he : er = 0
  · subst he
    rw [if_neg (show ¬ ((0 : Int) ≠ 0) from fun h => h rfl)]
    rcases whereP_cases os with hw | hw | hw | hw <;> rw [hw]
    · rw [stepP_no c7, stepP_no c8]
      simp
    · rw [stepP_yes c1 rfl, stepP_no c2]
      unfold overP
      generalize getP ((l.take 236).drop 108) = m
      by_cases hm : m.2 = 0 <;> simp [hm, noOv_joinAll]
    · rw [stepP_no c3, stepP_yes c4 rfl]
      unfold overP
      generalize getP ((l.take 108).drop 44) = m
      by_cases hm : m.2 = 0 <;> simp [hm, noOv_joinAll]
    · rw [stepP_yes c5 rfl]
      unfold overP
      generalize getP ((l.take 236).drop 108) = m
      by_cases hm : m.2 = 0
      · rw [stepP_yes (p := (joinAll os m.1, m.2)) c6 hm]
        generalize getP ((l.take 108).drop 44) = n
        by_cases hn : n.2 = 0 <;> simp [hm, hn, noOv_joinAll]
      · rw [stepP_bad (p := (joinAll os m.1, m.2)) hm]
        simp [hm]
  · rw [stepP_bad (p := (os, er)) he, stepP_bad (p := (os, er)) he, if_pos (show er ≠ 0 from he)]
    simp [he]
end Go.Proofs.Ytjiojpconkhdmaa.Fs

import Derived.Test.YtjiojpconkhdmaaCM3
namespace Go.Proofs.Ytjiojpconkhdmaa.Fs
open Go.RowKit Go.Maps Go.Proofs.YtjiojpconkhdmaaW.PrintWords Go.Proofs.YtjiojpconkhdmaaW.PrintLast Go.Proofs.YtjiojpconkhdmaaW.PrintMore
set_option linter.unusedVariables false
set_option linter.unusedSimpArgs false
-- GIVEN 55 making
def pinfoldref1_OptsMay.f (l0 : List S102) : Option Bool := some (optsOk [] l0 && decide (l0.length ≤ 32))
/-- What the array tells. -/
structure SeenArr (arr : Array Value) (l : List Int) : Prop where
  size : arr.size = 256
  at_ : ∀ j, j < 256 → arr[j]? = some (.bool (decide ((j : Int) ∈ l)))
theorem SeenArr.zero : SeenArr Try.zeroCells155 [] := by
  have h : Try.zeroCells155 = Array.replicate 256 (.bool false) := by kernel_rfl
  rw [h]
  exact ⟨by simp, fun j hj => by simp [Array.getElem?_replicate, hj]⟩
theorem SeenArr.set {arr : Array Value} {l : List Int} (h : SeenArr arr l) (c : Nat) (hc : c < 256) : SeenArr (arr.setIfInBounds c (.bool true)) (l ++ [(c : Int)]) := by
  refine ⟨by simp [h.size], fun j hj => ?_⟩
  rw [Array.getElem?_setIfInBounds]
  by_cases e : c = j
  · subst e; simp [h.size, hc]
  · rw [if_neg e, h.at_ j hj]
    have : ¬ (j : Int) = (c : Int) := by omega
    simp [this]
set_option maxHeartbeats 1000000 in
set_option maxRecDepth 100000 in
theorem pinfoldref1_OptsMay.calls (A0 : Option Addr) (c0 : Nat) (l0 : List S102) (r : Bool) (w : World) (hr0 : Kd.C k102 w A0 l0.length l0) (hc0 : l0.length ≤ c0) (h : pinfoldref1_OptsMay.f l0 = some r) :
    Calls Try.prog 55 #[.slice A0 l0.length c0] w fun e w' => e = .returned (.bool r) ∧ Below w.heap.size w w' := by
  injection h with h
  subst h
  have hlen : l0.length ≤ 9223372036854775807 := hr0.2.1
  have hr := Lib.hid hr0
  clear hr0
  go_enter Try.func55, Try.ntmps55
  go_wp2
  go_loopw [4] (fun i wr => ∃ (k : Nat) (arr : Array Value), k ≤ l0.length ∧ i = .int .i64 k ∧ wr = w.alloc (.cells arr 155) ∧ Aside0 (SeenArr arr (codes (l0.take k))) ∧ Aside0 (Fine l0 k)) (fun i _ => l0.length - (intOf i).toNat)
  case atStart => exact ⟨0, _, Nat.zero_le _, rfl, rfl, ⟨SeenArr.zero⟩, ⟨fine0 _⟩⟩
  case round =>
    obtain ⟨k, arr, hk, rfl, rfl, hS, hF⟩ := hrel
    by_cases hlt : k < l0.length
    · obtain ⟨ad, rfl, hx0, hx1⟩ := at_T102 hr.out (k : Int) (by omega) (by omega)
      rw [Int.toNat_natCast] at hx0 hx1
      replace hx0 := pw_cell_below (below_alloc (Below.refl _ _) (.cells arr 155)) hx0
      replace hx1 := pw_cell_below (below_alloc (Below.refl _ _) (.cells arr 155)) hx1
      generalize hxe : rd_T102 l0 (k : Int) = x at hx0 hx1
      have HX := Lib.hid hxe
      clear hxe
      have hbad : x.f0 ≤ 0 ∨ 255 ≤ x.f0 ∨ x.f0 ∈ codes (l0.take k) ∨ 512 < x.f1.size → optsOk [] l0 = false := fun hb => fine_bad hF.out hlt (by rw [HX.out]; exact hb)
      have HBAD := Lib.hid hbad
      clear hbad
      by_cases h1 : 0 < x.f0
      · by_cases h2 : x.f0 < 255
        · obtain ⟨c, hc⟩ : ∃ c : Nat, x.f0 = (c : Int) := ⟨x.f0.toNat, by omega⟩
          have hat := hS.out.at_ c (by omega)
          have hsz := Lib.hid hS.out.size
          by_cases h3 : x.f0 ∈ codes (l0.take k)
          · have hat' : arr[c]? = some (.bool true) := by rw [hat, ← hc]; simp [h3]
            have H3 := Lib.hid h3
            clear h3 hat
            rw [hc] at hx0 h1 h2
            have HC := Lib.hid hc
            clear hc
            go_wp2
            go_ret
            exact ⟨by rw [HBAD.out (.inr (.inr (.inl H3.out)))]; rfl, below_alloc (Below.refl _ _) _⟩
          · have hat' : arr[c]? = some (.bool false) := by rw [hat, ← hc]; simp [h3]
            have H3 := Lib.hid h3
            clear h3 hat
            rw [hc] at hx0 h1 h2
            have HC := Lib.hid hc
            clear hc
            by_cases h4 : x.f1.size ≤ 512
            · go_wp2
              have hT : codes (l0.take (k + 1)) = codes (l0.take k) ++ [(c : Int)] := by rw [rd_take _ _ hlt, HX.out, ← HC.out]; simp [codes]
              have hst : Fine l0 (k + 1) := fine_step hF.out hlt (by rw [HX.out, HC.out]; exact h1) (by rw [HX.out, HC.out]; exact h2) (by rw [HX.out]; exact H3.out) (by rw [HX.out]; exact h4)
              go_roundw
              case rel => exact ⟨k + 1, _, by omega, by go_num, rfl, ⟨by rw [hT]; exact hS.out.set c (by omega)⟩, ⟨hst⟩⟩
              case measure => simp [intOf]; omega
            · go_wp2
              go_ret
              exact ⟨by rw [HBAD.out (.inr (.inr (.inr (by omega))))]; rfl, below_alloc (Below.refl _ _) _⟩
        · go_wp2
          go_ret
          exact ⟨by rw [HBAD.out (.inr (.inl (by omega)))]; rfl, below_alloc (Below.refl _ _) _⟩
      · go_wp2
        go_ret
        exact ⟨by rw [HBAD.out (.inl (by omega))]; rfl, below_alloc (Below.refl _ _) _⟩
    · obtain rfl : k = l0.length := by omega
      go_wp2
      go_ret
      exact ⟨by rw [fine_end hF.out, Bool.true_and]; exact congrArg (fun b => Ending.returned (.bool b)) (decide_eq_decide.2 (by omega)), below_alloc (Below.refl _ _) _⟩
end Go.Proofs.Ytjiojpconkhdmaa.Fs

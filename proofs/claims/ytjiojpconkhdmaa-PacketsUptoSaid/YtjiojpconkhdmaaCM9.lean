import Derived.Test.YtjiojpconkhdmaaCM3
import Derived.RegionTactic
import Derived.BigRegion
import Derived.Deep.RegionWith
import Derived.WalkSpells
import Derived.Lib.Builder
namespace Go.Proofs.Ytjiojpconkhdmaa.Fs
open Go.RowKit Go.Maps Go.Proofs.YtjiojpconkhdmaaW.PrintWords Go.Proofs.YtjiojpconkhdmaaW.PrintLast Go.Proofs.YtjiojpconkhdmaaW.PrintMore
set_option linter.unusedVariables false
set_option linter.unusedSimpArgs false
/-- Does a number lie within so many bytes? -/
def fitsB (x k : Int) : Bool := decide (0 ≤ x ∧ x < (if k = 1 then 256 else if k = 2 then 65536 else 4294967296))
theorem ret_bool {a b : Bool} (h : a = b) : Ending.returned (.bool a) = .returned (.bool b) := by rw [h]
set_option maxRecDepth 100000 in
theorem fits_calls (x k : Int) (hk : k = 1 ∨ k = 2 ∨ k = 4) (w : World) : Calls Try.prog 51 #[.int .i64 x, .int .i64 k] w fun e w' => e = .returned (.bool (fitsB x k)) ∧ w = w' := by
  by_cases h0 : 0 ≤ x
  · rcases hk with rfl | rfl | rfl
    all_goals
      go_enter Try.func51, Try.ntmps51
      go_wp2
      go_ret
      refine ⟨ret_bool ?_, rfl⟩
      rw [Bool.eq_iff_iff]
      simp [fitsB]
      omega
  · have h1 : decide (0 ≤ x) = false := by simpa using h0
    rcases hk with rfl | rfl | rfl
    all_goals
      go_enter Try.func51, Try.ntmps51
      go_wp2
      go_ret
      refine ⟨ret_bool ?_, rfl⟩
      simp [fitsB]
      omega
set_option maxRecDepth 100000 in
theorem odd_calls (a : Addr) (x k : Int) (hk : k = 1 ∨ k = 2 ∨ k = 4) (w : World) (hc : w.cell? a = some (.int .i64 x)) : Calls Try.prog 50 #[.agg #[.pointer (some a), .int .i64 k]] w fun e w' => e = .returned (.bool (!fitsB x k)) ∧ Below w.heap.size w w' := by
  have hc' := pw_cell_below (below_alloc (Below.refl _ _) (.cells #[.pointer (some a), .int .i64 k] 77)) hc
  go_enter Try.func50, Try.ntmps50
  go_wp2
  go_region_with (first | (go_at_call 51; refine (fits_calls x k hk _).mono ?_; rintro e w' ⟨rfl, rfl⟩))
  all_goals
    go_wp2
    go_ret
    exact ⟨rfl, below_drew (below_alloc (Below.refl _ _) _)⟩
/-- A packet's numbers: where each lies, and how many bytes it has. -/
def fieldCells (gp gl : Nat) : Array Value := #[.pointer (some ⟨gp, 0, none⟩), .int .i64 1, .pointer (some ⟨gp, 1, none⟩), .int .i64 1, .pointer (some ⟨gl, 0, none⟩), .int .i64 1, .pointer (some ⟨gp, 2, none⟩), .int .i64 1, .pointer (some ⟨gp, 3, none⟩), .int .i64 4, .pointer (some ⟨gp, 4, none⟩), .int .i64 2, .pointer (some ⟨gp, 5, none⟩), .int .i64 2, .pointer (some ⟨gp, 6, none⟩), .int .i64 4, .pointer (some ⟨gp, 7, none⟩), .int .i64 4, .pointer (some ⟨gp, 8, none⟩), .int .i64 4, .pointer (some ⟨gp, 9, none⟩), .int .i64 4]
set_option maxHeartbeats 1000000 in
set_option maxRecDepth 100000 in
theorem fields_calls (gp gl : Nat) (w : World) : Calls Try.prog 34 #[.pointer (some ⟨gp, 0, none⟩), .pointer (some ⟨gl, 0, none⟩)] w fun e w' => e = .returned (.slice (some ⟨w.heap.size, 0, none⟩) 11 11) ∧ w' = (w.alloc (.cells (fieldCells gp gl) 77)).drew := by
  go_enter Try.func34, Try.ntmps34
  go_wp2
  go_region
  go_wp2
  go_ret
  exact ⟨rfl, rfl⟩
/-- The fields as a list: address, number, bytes. -/
structure FieldsAt (w : World) (gs : Nat) (fs : List (Addr × Int × Int)) : Prop where
  ptr : ∀ (j : Nat) (t : Addr × Int × Int), fs[j]? = some t → w.cell? ⟨gs, j * 2, none⟩ = some (.pointer (some t.1))
  num : ∀ (j : Nat) (t : Addr × Int × Int), fs[j]? = some t → w.cell? ⟨gs, j * 2 + 1, none⟩ = some (.int .i64 t.2.2)
  val : ∀ (j : Nat) (t : Addr × Int × Int), fs[j]? = some t → w.cell? t.1 = some (.int .i64 t.2.1)
  wide : ∀ (j : Nat) (t : Addr × Int × Int), fs[j]? = some t → t.2.2 = 1 ∨ t.2.2 = 2 ∨ t.2.2 = 4
theorem FieldsAt.below {w w1 : World} {gs : Nat} {fs : List (Addr × Int × Int)} (h : FieldsAt w gs fs) (hb : Below w.heap.size w w1) : FieldsAt w1 gs fs :=
  ⟨fun j t e => pw_cell_below hb (h.ptr j t e), fun j t e => pw_cell_below hb (h.num j t e), fun j t e => pw_cell_below hb (h.val j t e), h.wide⟩
def allFit (fs : List (Addr × Int × Int)) : Bool := fs.all fun t => fitsB t.2.1 t.2.2
set_option maxHeartbeats 1000000 in
set_option maxRecDepth 100000 in
theorem indexFields_calls (gs : Nat) (fs : List (Addr × Int × Int)) (w : World) (hF : FieldsAt w gs fs) (hn : fs.length ≤ 1000) : Calls Try.prog 89 #[.slice (some ⟨gs, 0, none⟩) fs.length fs.length, .func (.func 50) #[] #[]] w fun e w' => (∃ r : Int, e = .returned (.int .i64 r) ∧ decide (0 ≤ r) = !allFit fs) ∧ Below w.heap.size w w' := by
  have HF := Lib.hid hF
  clear hF
  go_enter Try.func89, Try.ntmps89
  go_wp2
  go_loopw [8] (fun i wr => ∃ k : Nat, k ≤ fs.length ∧ i = .int .i64 k ∧ Aside0 (allFit (fs.take k) = true) ∧ Aside0 (Below w.heap.size w wr)) (fun i _ => fs.length - (intOf i).toNat)
  case atStart => exact ⟨0, Nat.zero_le _, rfl, ⟨rfl⟩, ⟨Below.refl _ _⟩⟩
  case round =>
    obtain ⟨k, hk, rfl, hA, hB⟩ := hrel
    by_cases hlt : k < fs.length
    · obtain ⟨t, ht⟩ : ∃ t, fs[k]? = some t := ⟨_, List.getElem?_eq_getElem hlt⟩
      have hf := HF.out.below hB.out
      have hx0 := hf.ptr k t ht
      have hx1 := hf.num k t ht
      have hx2 := hf.val k t ht
      have hw := hf.wide k t ht
      have htk : fs.take (k + 1) = fs.take k ++ [t] := by rw [List.take_add_one, ht]; rfl
      have HT := Lib.hid htk
      have HM := Lib.hid (List.mem_of_getElem? ht)
      clear hf ht htk
      obtain ⟨a, x, n⟩ := t
      have HX2 := Lib.hid hx2
      have HW := Lib.hid hw
      clear hx2 hw
      cases hfit : fitsB x n with
      | true =>
        have HFT := Lib.hid hfit
        clear hfit
        go_wp2_with (first | (go_at_call 50; (with_reducible refine (odd_calls a x n HW.out _ HX2.out).mono ?_); rintro e w' ⟨rfl, hb1⟩; rw [HFT.out]))
        go_roundw
        case rel => exact ⟨k + 1, by omega, by go_num, ⟨by rw [HT.out]; unfold allFit at *; rw [List.all_append, hA.out]; simp [HFT.out]⟩, ⟨hB.out.trans (hb1.mono hB.out.size)⟩⟩
        case measure => simp [intOf]; omega
      | false =>
        have HFT := Lib.hid hfit
        clear hfit
        go_wp2_with (first | (go_at_call 50; (with_reducible refine (odd_calls a x n HW.out _ HX2.out).mono ?_); rintro e w' ⟨rfl, hb1⟩; rw [HFT.out]))
        go_ret
        refine ⟨⟨_, rfl, ?_⟩, hB.out.trans (hb1.mono hB.out.size)⟩
        have : allFit fs = false := by
          unfold allFit
          rw [List.all_eq_false]
          exact ⟨_, HM.out, by simp [HFT.out]⟩
        rw [this]
        simp
    · obtain rfl : k = fs.length := by omega
      go_wp2
      go_ret
      refine ⟨⟨_, rfl, ?_⟩, hB.out⟩
      have := hA.out
      rw [List.take_of_length_le (Nat.le_refl _)] at this
      rw [this]
      rfl
set_option maxRecDepth 100000 in
theorem containsFields_calls (gs : Nat) (fs : List (Addr × Int × Int)) (w : World) (hF : FieldsAt w gs fs) (hn : fs.length ≤ 1000) : Calls Try.prog 53 #[.slice (some ⟨gs, 0, none⟩) fs.length fs.length, .func (.func 50) #[] #[]] w fun e w' => e = .returned (.bool (!allFit fs)) ∧ Below w.heap.size w w' := by
  have HF := Lib.hid hF
  clear hF
  go_enter Try.func53, Try.ntmps53
  go_wp2_with (first | (go_at_call 89; (with_reducible refine (indexFields_calls gs fs _ HF.out hn).mono ?_); rintro e w' ⟨⟨r, rfl, hr⟩, hb1⟩))
  go_ret
  exact ⟨rfl, hb1⟩
end Go.Proofs.Ytjiojpconkhdmaa.Fs

namespace Go.Proofs.Ytjiojpconkhdmaa.Fs
open Go.RowKit Go.Maps Go.Proofs.YtjiojpconkhdmaaW.PrintWords Go.Proofs.YtjiojpconkhdmaaW.PrintLast Go.Proofs.YtjiojpconkhdmaaW.PrintMore
set_option linter.unusedVariables false
set_option linter.unusedSimpArgs false
-- GIVEN 18 making
def optsMay (l : List S102) : Bool := optsOk [] l && decide (l.length ≤ 32)
/-- Do a packet's numbers fit? -/
def numsFit (a0 a1 a2 a3 a4 a5 a6 a7 a8 a9 : Int) : Bool :=
  fitsB a0 1 && fitsB a1 1 && fitsB a2 1 && fitsB a3 4 && fitsB a4 2 && fitsB a5 2 && fitsB a6 4 && fitsB a7 4 && fitsB a8 4 && fitsB a9 4
def packet_May.f (a0 a1 a2 a3 a4 a5 a6 a7 a8 a9 : Int) (a10 : ByteArray) (l0 : List S102) : Option Bool :=
  some (decide (a10.size ≤ 16) && optsMay l0 && numsFit a0 a1 a2 a3 a4 a5 a6 a7 a8 a9)
def packFs (gp gl : Nat) (a0 a1 n a2 a3 a4 a5 a6 a7 a8 a9 : Int) : List (Addr × Int × Int) :=
  [(⟨gp, 0, none⟩, a0, 1), (⟨gp, 1, none⟩, a1, 1), (⟨gl, 0, none⟩, n, 1), (⟨gp, 2, none⟩, a2, 1), (⟨gp, 3, none⟩, a3, 4), (⟨gp, 4, none⟩, a4, 2), (⟨gp, 5, none⟩, a5, 2), (⟨gp, 6, none⟩, a6, 4), (⟨gp, 7, none⟩, a7, 4), (⟨gp, 8, none⟩, a8, 4), (⟨gp, 9, none⟩, a9, 4)]
theorem packFs_at {w : World} {gp gl gs : Nat} {a0 a1 n a2 a3 a4 a5 a6 a7 a8 a9 : Int} {x y : Value} {t u v : Nat} (hp : w.heap[gp]? = some (.cells #[.int .i64 a0, .int .i64 a1, .int .i64 a2, .int .i64 a3, .int .i64 a4, .int .i64 a5, .int .i64 a6, .int .i64 a7, .int .i64 a8, .int .i64 a9, x, y] t (0, 0)))
    (hl : w.heap[gl]? = some (.cells #[.int .i64 n] u (0, 0))) (hs : w.heap[gs]? = some (.cells (fieldCells gp gl) v (0, 0))) : FieldsAt w gs (packFs gp gl a0 a1 n a2 a3 a4 a5 a6 a7 a8 a9) := by
  have hc : ∀ j, w.cell? ⟨gs, j, none⟩ = (fieldCells gp gl)[j]? := fun j => by simp [World.cell?, hs]
  have hq : ∀ j, w.cell? ⟨gp, j, none⟩ = (#[.int .i64 a0, .int .i64 a1, .int .i64 a2, .int .i64 a3, .int .i64 a4, .int .i64 a5, .int .i64 a6, .int .i64 a7, .int .i64 a8, .int .i64 a9, x, y] : Array Value)[j]? := fun j => by simp [World.cell?, hp]
  have hm : w.cell? ⟨gl, 0, none⟩ = some (.int .i64 n) := by simp [World.cell?, hl]
  have cases11 : ∀ (P : Nat → Addr × Int × Int → Prop), P 0 (⟨gp, 0, none⟩, a0, 1) → P 1 (⟨gp, 1, none⟩, a1, 1) → P 2 (⟨gl, 0, none⟩, n, 1) → P 3 (⟨gp, 2, none⟩, a2, 1) → P 4 (⟨gp, 3, none⟩, a3, 4) → P 5 (⟨gp, 4, none⟩, a4, 2) → P 6 (⟨gp, 5, none⟩, a5, 2) → P 7 (⟨gp, 6, none⟩, a6, 4) → P 8 (⟨gp, 7, none⟩, a7, 4) → P 9 (⟨gp, 8, none⟩, a8, 4) → P 10 (⟨gp, 9, none⟩, a9, 4) → ∀ j t, (packFs gp gl a0 a1 n a2 a3 a4 a5 a6 a7 a8 a9)[j]? = some t → P j t := by
    intro P h0 h1 h2 h3 h4 h5 h6 h7 h8 h9 h10 j t e
    match j, e with
    | 0, e => cases e; exact h0
    | 1, e => cases e; exact h1
    | 2, e => cases e; exact h2
    | 3, e => cases e; exact h3
    | 4, e => cases e; exact h4
    | 5, e => cases e; exact h5
    | 6, e => cases e; exact h6
    | 7, e => cases e; exact h7
    | 8, e => cases e; exact h8
    | 9, e => cases e; exact h9
    | 10, e => cases e; exact h10
    | j + 11, e => simp [packFs] at e
  refine ⟨cases11 _ ?_ ?_ ?_ ?_ ?_ ?_ ?_ ?_ ?_ ?_ ?_, cases11 _ ?_ ?_ ?_ ?_ ?_ ?_ ?_ ?_ ?_ ?_ ?_, cases11 _ ?_ ?_ ?_ ?_ ?_ ?_ ?_ ?_ ?_ ?_ ?_, cases11 _ ?_ ?_ ?_ ?_ ?_ ?_ ?_ ?_ ?_ ?_ ?_⟩
  all_goals first | (rw [hc]; rfl) | (rw [hq]; rfl) | exact hm | simp
theorem packFs_fit (gp gl : Nat) (a0 a1 a2 a3 a4 a5 a6 a7 a8 a9 : Int) (n : Nat) (hn : n ≤ 16) : allFit (packFs gp gl a0 a1 (n : Int) a2 a3 a4 a5 a6 a7 a8 a9) = numsFit a0 a1 a2 a3 a4 a5 a6 a7 a8 a9 := by
  have h : fitsB (n : Int) 1 = true := by simp [fitsB]; omega
  simp [allFit, packFs, numsFit, h, Bool.and_assoc]
theorem two_boxes (w : World) (o1 o2 : Obj) : ((w.alloc o1).alloc o2).heap[w.heap.size]? = some o1 ∧ ((w.alloc o1).alloc o2).heap[w.heap.size + 1]? = some o2 ∧ ((w.alloc o1).alloc o2).heap.size = w.heap.size + 2 := by
  refine ⟨(heap_alloc_old _ _ (by simp)).trans (heap_alloc_new _ _), ?_, by simp⟩
  have := heap_alloc_new (w.alloc o1) o2
  simpa using this
set_option maxHeartbeats 1000000 in
set_option maxRecDepth 100000 in
theorem packet_May.calls (a0_0 a0_1 a0_2 a0_3 a0_4 a0_5 a0_6 a0_7 a0_8 a0_9 : Int) (a0_10 : ByteArray) (A0_11 : Option Addr) (c0_11 : Nat) (l0_11 : List S102) (r : Bool) (w : World) (hr0_11 : Kd.C k102 w A0_11 l0_11.length l0_11) (hc0_11 : l0_11.length ≤ c0_11) (h : packet_May.f a0_0 a0_1 a0_2 a0_3 a0_4 a0_5 a0_6 a0_7 a0_8 a0_9 a0_10 l0_11 = some r) :
    Calls Try.prog 18 #[.agg #[.int .i64 a0_0, .int .i64 a0_1, .int .i64 a0_2, .int .i64 a0_3, .int .i64 a0_4, .int .i64 a0_5, .int .i64 a0_6, .int .i64 a0_7, .int .i64 a0_8, .int .i64 a0_9, .string a0_10, .slice A0_11 l0_11.length c0_11]] w fun e w' => e = .returned (.bool r) ∧ Below w.heap.size w w' := by
  injection h with h
  subst h
  have HR := Lib.hid hr0_11
  clear hr0_11
  by_cases h16 : a0_10.size ≤ 16
  · have h16b : decide ((a0_10.size : Int) ≤ 16) = true := by simp; omega
    cases hom : optsMay l0_11 with
    | true =>
      have HM := Lib.hid hom
      clear hom
      go_enter Try.func18, Try.ntmps18
      go_wp2_with (first | (go_at_call 52; refine (opts_May.calls A0_11 c0_11 l0_11 true _ (Kd.C_alloc (Kd.C_alloc HR.out _) _) hc0_11 (congrArg some HM.out)).mono ?_; rintro e w1 ⟨rfl, hb1⟩) | (go_at_call 34; refine (fields_calls _ _ _).mono ?_; rintro e w2 ⟨rfl, rfl⟩))
      obtain ⟨t1, t2, t3⟩ := two_boxes w (.cells #[.int .i64 a0_0, .int .i64 a0_1, .int .i64 a0_2, .int .i64 a0_3, .int .i64 a0_4, .int .i64 a0_5, .int .i64 a0_6, .int .i64 a0_7, .int .i64 a0_8, .int .i64 a0_9, .string a0_10, .slice A0_11 l0_11.length c0_11] 24) (.cells #[.int .i64 (a0_10.size : Int)] 3)
      have hsz := hb1.size
      rw [t3] at hsz
      have u1 := (hb1.block w.heap.size (by rw [t3]; omega)).trans t1
      have u2 := (hb1.block (w.heap.size + 1) (by rw [t3]; omega)).trans t2
      have hz := (below_alloc (below_alloc (Below.refl w.heap.size w) _) _).trans (hb1.mono (by rw [t3]; omega))
      have HU := Lib.hid (And.intro u1 (And.intro u2 hz))
      clear u1 u2 t1 t2 t3 hb1 hz
      go_wp2_with (first | (go_at_call 53; refine (containsFields_calls w1.heap.size (packFs w.heap.size (w.heap.size + 1) a0_0 a0_1 (a0_10.size : Int) a0_2 a0_3 a0_4 a0_5 a0_6 a0_7 a0_8 a0_9) _ ?_ (by simp [packFs])).mono ?_; (exact packFs_at ((heap_alloc_old w1 _ (by omega)).trans HU.out.1) ((heap_alloc_old w1 _ (by omega)).trans HU.out.2.1) (heap_alloc_new w1 _)); rintro e w3 ⟨rfl, hb3⟩))
      go_ret
      refine ⟨ret_bool ?_, ?_⟩
      · rw [packFs_fit _ _ _ _ _ _ _ _ _ _ _ _ _ h16]
        simp [h16]
      · exact (below_drew (below_alloc HU.out.2.2 _)).trans (hb3.mono (by simp; omega))
    | false =>
      have HM := Lib.hid hom
      clear hom
      go_enter Try.func18, Try.ntmps18
      go_wp2_with (first | (go_at_call 52; refine (opts_May.calls A0_11 c0_11 l0_11 false _ (Kd.C_alloc (Kd.C_alloc HR.out _) _) hc0_11 (congrArg some HM.out)).mono ?_; rintro e w1 ⟨rfl, hb1⟩))
      go_ret
      exact ⟨ret_bool (by simp), (below_alloc (below_alloc (Below.refl _ _) _) _).trans (hb1.mono (by simp; omega))⟩
  · have h16b : decide ((a0_10.size : Int) ≤ 16) = false := by simp; omega
    go_enter Try.func18, Try.ntmps18
    go_wp2
    go_ret
    exact ⟨ret_bool (by simp [h16]), below_alloc (below_alloc (Below.refl _ _) _) _⟩
end Go.Proofs.Ytjiojpconkhdmaa.Fs

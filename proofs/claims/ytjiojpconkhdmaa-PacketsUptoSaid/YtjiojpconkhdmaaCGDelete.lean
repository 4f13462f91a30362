import Derived.Test.YtjiojpconkhdmaaCGPacketPut
import Derived.Test.YtjiojpconkhdmaaCGJoin
import Derived.Lib.SliceRun
namespace Go.Proofs.Ytjiojpconkhdmaa.Fs
open Go.RowKit Go.Maps Go.Proofs.YtjiojpconkhdmaaW.PrintWords Go.Proofs.YtjiojpconkhdmaaW.PrintLast Go.Proofs.YtjiojpconkhdmaaW.PrintMore
set_option linter.unusedVariables false
set_option linter.unusedSimpArgs false
def isOv (x : S102) : Bool := decide (x.f0 = 52)
/-- The options that are no overload. -/
def noOv (l : List S102) : List S102 := l.filter fun x => !isOv x
theorem noOv_snoc (l : List S102) (x : S102) : noOv (l ++ [x]) = if isOv x then noOv l else noOv l ++ [x] := by
  unfold noOv
  rw [List.filter_append]
  cases h : isOv x <;> simp [List.filter, h]
def clr (n : Nat) : List Value := (Builtin.zeroCells #[.int .i64 0, .string ⟨#[]⟩] n).toList
theorem clr_length (n : Nat) : (clr n).length = n * 2 := by simp [clr, Builtin.zeroCells]
theorem clr_cell (n : Nat) (v : Value) (h : v ∈ clr n) : v.oneCell' = true := by
  simp only [clr, Builtin.zeroCells, Array.toList_map, List.mem_map] at h
  obtain ⟨i, _, rfl⟩ := h
  have : i % 2 = 0 ∨ i % 2 = 1 := by omega
  rcases this with h | h <;> simp [h] <;> rfl
theorem zero102 (w : World) : (zeroValue 102).run Try.prog w = .ok (.agg #[.int .i64 0, .string ⟨#[]⟩]) w := by
  kernel_rfl
theorem take_set_end (ys : List S102) (i : Nat) (x : S102) (h : i < ys.length) : (ys.set i x).take (i + 1) = ys.take i ++ [x] := by
  rw [List.take_add_one, List.take_set_of_le (Nat.le_refl _), List.getElem?_set_self h]
  rfl
theorem clear_run (w : World) (b o n c : Nat) (ty : TypeId) (hn : 0 < n) (hc : ∀ j, j < n * 2 → (w.cell? ⟨b, o + j, none⟩).isSome = true) (hf : ∀ j, j < n * 2 → w.frozen? ⟨b, o + j, none⟩ = false) :
    (Builtin.clear_ #[22] ty #[.slice (some ⟨b, o, none⟩) n c]).run Try.prog w = .ok (.tuple #[]) (w.setCells b o (clr n)) := by
  have hst := run_storeCells_cells (P := Try.prog) b o (clr n) 0 w (by rw [clr_length]; simpa using hc) (by rw [clr_length]; simpa using hf) (fun v hv => clr_cell n v hv)
  simp only [Nat.add_zero] at hst
  have hzc : (Value.agg #[.int .i64 0, .string ⟨#[]⟩]).cells = #[.int .i64 0, .string ⟨#[]⟩] := rfl
  obtain ⟨m, rfl⟩ : ∃ m, n = m + 1 := ⟨n - 1, by omega⟩
  unfold clr at hst ⊢
  simp [Builtin.clear_, run_underlying Try.underlying22, zero102, hzc, hst]
theorem noOv_length (l : List S102) : (noOv l).length ≤ l.length := List.length_filter_le _ _
set_option maxRecDepth 100000 in
theorem isOv_calls (x : S102) (w : World) : Calls Try.prog 86 #[.agg #[.int .i64 x.f0, .string x.f1]] w fun e w' => e = .returned (.bool (isOv x)) ∧ Below w.heap.size w w' := by
  go_enter Try.func86, Try.ntmps86
  go_wp2
  go_ret
  exact ⟨by unfold isOv; first | rfl | simp, below_alloc (Below.refl _ _) _⟩
def IdxSpec (l : List S102) (r : Int) : Prop := (r = -1 ∧ noOv l = l) ∨ ∃ k : Nat, r = (k : Int) ∧ k < l.length ∧ noOv (l.take k) = l.take k ∧ isOv (rd_T102 l (k : Int)) = true
set_option maxRecDepth 100000 in
theorem index_calls (A : Option Addr) (c : Nat) (l : List S102) (w : World) (hr0 : Kd.C k102 w A l.length l) : Calls Try.prog 119 #[.slice A l.length c, .func (.func 86) #[] #[]] w fun e w' => (∃ r : Int, e = .returned (.int .i64 r) ∧ IdxSpec l r) ∧ Below w.heap.size w w' := by
  have hlen : l.length ≤ 9223372036854775807 := hr0.2.1
  have HR := Lib.hid hr0
  clear hr0
  go_enter Try.func119, Try.ntmps119
  go_wp2
  go_loopw [8] (fun i wr => ∃ k : Nat, k ≤ l.length ∧ i = .int .i64 k ∧ Aside0 (noOv (l.take k) = l.take k) ∧ Aside0 (Below w.heap.size w wr)) (fun i _ => l.length - (intOf i).toNat)
  case atStart => exact ⟨0, Nat.zero_le _, rfl, ⟨rfl⟩, ⟨Below.refl _ _⟩⟩
  case round =>
    obtain ⟨k, hk, rfl, hA, hB⟩ := hrel
    by_cases hlt : k < l.length
    · obtain ⟨ad, rfl, hx0, hx1⟩ := at_T102 (Kd.C_below HR.out hB.out) (k : Int) (by omega) (by omega)
      rw [Int.toNat_natCast] at hx0 hx1
      have htk := rd_take l k hlt
      generalize hxe : rd_T102 l (k : Int) = x at hx0 hx1 htk
      have HX := Lib.hid hxe
      have HT := Lib.hid htk
      clear hxe htk
      cases hov : isOv x with
      | true =>
        have HO := Lib.hid hov
        clear hov
        go_wp2_with (first | (go_at_call 86; (with_reducible refine (isOv_calls x _).mono ?_); rintro e w' ⟨rfl, hb1⟩; rw [HO.out]))
        go_ret
        exact ⟨⟨_, rfl, .inr ⟨k, rfl, hlt, hA.out, by rw [HX.out]; exact HO.out⟩⟩, hB.out.trans (hb1.mono hB.out.size)⟩
      | false =>
        have HO := Lib.hid hov
        clear hov
        go_wp2_with (first | (go_at_call 86; (with_reducible refine (isOv_calls x _).mono ?_); rintro e w' ⟨rfl, hb1⟩; rw [HO.out]))
        go_roundw
        case rel => exact ⟨k + 1, by omega, by go_num, ⟨by rw [HT.out, noOv_snoc, HO.out, hA.out]; rfl⟩, ⟨hB.out.trans (hb1.mono hB.out.size)⟩⟩
        case measure => simp [intOf]; omega
    · obtain rfl : k = l.length := by omega
      go_wp2
      go_ret
      refine ⟨⟨_, rfl, .inl ⟨rfl, ?_⟩⟩, hB.out⟩
      have := hA.out
      rwa [List.take_of_length_le (Nat.le_refl _)] at this
theorem below_of_grown {w w' : World} {g n : Nat} (h : w.grownBy w' (some g)) (hg : n ≤ g) (hs : n ≤ w.heap.size) : Below n w w' :=
  ⟨h.os, h.tape, h.output, h.size, fun k hk => h.block k (by omega) (by intro e; injection e with e; omega)⟩
/-- A write behind a row's elements, in its block: the row stays. -/
theorem row_behind {W : World} {base : Nat} {ok : Nat → Prop} {g n cap : Nat} {xs : List S102} (h : Kd.R k102 102 W base ok (.slice (some ⟨g, 0, none⟩) n cap) xs) (o : Nat) (seg : List Value) (ho : n * 2 ≤ o) (hf : o + seg.length ≤ cap * 2) :
    Kd.R k102 102 (W.setCells g o seg) base ok (.slice (some ⟨g, 0, none⟩) n cap) xs ∧ W.grownBy (W.setCells g o seg) (some g) := by
  obtain ⟨hn, hnc, _⟩ := Kd.R_reads' h
  subst hn
  obtain ⟨hok, inner, ho', hr⟩ := h
  obtain ⟨ho1, ho2⟩ := ho'
  rcases ho2 with ⟨hv, _⟩ | ⟨g', cap', cur, hv, hb, hh, hnc', hcm, hcs, ht⟩
  · cases hv
  injection hv with ha _ hc
  injection ha with ha
  injection ha with hg
  subst hg; subst hc
  have hsz : (k102).sz = 2 := rfl
  rw [hsz] at hcs ht ho1
  obtain ⟨cur', h3, h4, h5⟩ := setCells_row seg o W cur hh (by omega)
  obtain ⟨s1, s2, s3, s4⟩ := setCells_same g seg o W
  have hfar : ∀ k, k ≠ g → (W.setCells g o seg).heap[k]? = W.heap[k]? := fun k hk => setCells_far seg _ k hk
  refine ⟨⟨hok, inner, ⟨ho1, .inr ⟨g, cap, cur', rfl, hb, h3, hnc', hcm, by rw [h4, hcs]; rfl, ?_⟩⟩, ?_⟩, ⟨s1, s2, s3, by rw [s4]; exact Nat.le_refl _, fun k _ hk => hfar k (fun he => hk (by rw [he]))⟩⟩
  · show List.take (xs.length * 2) cur'.toList = inner
    have hl : xs.length * 2 ≤ (cur.toList.take o).length := by have h9 : cur.toList.length = cur.size := Array.length_toList; rw [List.length_take, h9]; omega
    rw [h5, ← ht, List.append_assoc, List.take_append_of_le_length hl, List.take_take, Nat.min_eq_left ho]
  · exact hr
set_option maxHeartbeats 1000000 in
set_option maxRecDepth 100000 in
theorem delete_calls (P0_ : Nat → Prop) (v : Value) (l : List S102) (w0 w : World) (hB : Below w0.heap.size w0 w) (ho0 : Kd.R k102 102 w w0.heap.size P0_ v l) : Calls Try.prog 85 #[v, .func (.func 86) #[] #[]] w fun e w' => ∃ v0_ : Value, e = .returned v0_ ∧ Kd.R k102 102 w' w0.heap.size (fun k_ => (P0_ k_ ∨ w.heap.size ≤ k_)) v0_ (noOv l) ∧ Below w0.heap.size w0 w' := by
  obtain ⟨A, c, rfl⟩ := Kd.R_slice ho0
  have hr0 := Kd.R_reads' ho0
  have hlen : l.length ≤ 9223372036854775807 := hr0.2.2.2.1
  have HR := Lib.hid ho0
  have HRC := Lib.hid hr0.2.2
  have HBW := Lib.hid hB
  clear hr0 hB ho0
  go_enter Try.func85, Try.ntmps85
  go_wp2_with (first | (go_at_call 119; (with_reducible refine (index_calls A c l _ HRC.out).mono ?_); rintro e w1 ⟨⟨r, rfl, hr⟩, hb1⟩; obtain ⟨rfl, hno⟩ | ⟨k, rfl, hk, hno, hov⟩ := hr))
  · go_wp2
    go_ret
    exact ⟨_, rfl, by rw [hno]; exact Kd.R_mono (Kd.R_below HR.out hb1) (fun k hk => .inl hk), HBW.out.trans (hb1.mono HBW.out.size)⟩
  · obtain ⟨g, cap, he, hbg, hgl, _⟩ := Kd.R_form HR.out (by omega)
    obtain ⟨rfl, rfl⟩ : A = some ⟨g, 0, none⟩ ∧ c = cap := by injection he with h1 _ h3; exact ⟨h1, h3⟩
    have HP := Lib.hid hbg
    have HG := Lib.hid hgl
    have HNO := Lib.hid hno
    have HOV := Lib.hid hov
    have HB1 := Lib.hid hb1
    clear he hbg hgl hno hov hb1
    rw [show ((k : Int) == -1) = false from beq_eq_false_iff_ne.2 (by omega)]
    go_loopw [5, 6, 7] (fun s5 s6 _ wr => ∃ (i j : Nat) (ys : List S102), s5 = .int .i64 i ∧ s6 = .int .i64 j ∧ i < j ∧ j ≤ l.length ∧ ys.length = l.length ∧ Aside0 (ys.take i = noOv (l.take j)) ∧ Aside0 (ys.drop j = l.drop j) ∧ Aside0 (Kd.R k102 102 wr w0.heap.size (fun k_ => (P0_ k_ ∨ w.heap.size ≤ k_)) (.slice (some ⟨g, 0, none⟩) l.length c) ys) ∧ Aside0 (Below w0.heap.size w0 wr)) (fun _ j _ _ => l.length - (intOf j).toNat)
    case atStart => exact ⟨k, k + 1, l, rfl, by go_num, by omega, by omega, rfl, ⟨by rw [rd_take l k hk, noOv_snoc, if_pos HOV.out, HNO.out]⟩, ⟨rfl⟩, ⟨Kd.R_mono (Kd.R_below HR.out HB1.out) (fun k hk => .inl hk)⟩, ⟨HBW.out.trans (HB1.out.mono HBW.out.size)⟩⟩
    case round =>
      obtain ⟨i, j, ys, rfl, rfl, hij, hj, hys, hT, hD, hRr, hBr⟩ := hrel
      by_cases hlt : j < l.length
      · obtain ⟨ce, hcl, hMM, hcc, hfr⟩ := Kd.R_elem hRr.out z102 (j : Int) (by omega) (by omega)
        obtain rfl := k102_openM hMM
        obtain ⟨ci, hil, hMi, hci, hfi⟩ := Kd.R_elem hRr.out z102 (i : Int) (by omega) (by omega)
        obtain rfl := k102_openM hMi
        have hx0 : wr.cell? ⟨g, j * 2, none⟩ = some (.int .i64 (rd_T102 ys (j : Int)).f0) := hcc 0 _ rfl
        have hx1 : wr.cell? ⟨g, j * 2 + 1, none⟩ = some (.string (rd_T102 ys (j : Int)).f1) := hcc 1 _ rfl
        have hy0 : wr.cell? ⟨g, i * 2, none⟩ = some (.int .i64 (rd_T102 ys (i : Int)).f0) := hci 0 _ rfl
        have hy1 : wr.cell? ⟨g, i * 2 + 1, none⟩ = some (.string (rd_T102 ys (i : Int)).f1) := hci 1 _ rfl
        have hz0 : wr.frozen? ⟨g, i * 2, none⟩ = false := hfi 0
        have hz1 : wr.frozen? ⟨g, i * 2 + 1, none⟩ = false := hfi 1
        have hre : rd_T102 ys (j : Int) = rd_T102 l (j : Int) := by
          have h1 := rd_drop ys j (by omega)
          have h2 := rd_drop l j hlt
          rw [hD.out, h2] at h1
          injection h1 with h1
          exact h1.symm
        have htk := rd_take l j hlt
        rw [hre] at hx0 hx1
        clear hMM hMi hcc hci hfr hfi hcl hil
        generalize rd_T102 l (j : Int) = x at hx0 hx1 htk
        have HT := Lib.hid htk
        clear htk hre
        have hgr : g < wr.heap.size := by
          have := hx0
          rcases Nat.lt_or_ge g wr.heap.size with h | h
          · exact h
          · simp [World.cell?, Array.getElem?_eq_none h] at this
        cases hov : isOv x with
        | true =>
          have HO := Lib.hid hov
          clear hov hy0 hy1 hz0 hz1
          go_wp2_with (first | (go_at_call 86; (with_reducible refine (isOv_calls x _).mono ?_); rintro e w' ⟨rfl, hb1⟩; rw [HO.out]))
          go_roundw
          case rel => exact ⟨i, j + 1, ys, rfl, by go_num, by omega, by omega, hys, ⟨by rw [HT.out, noOv_snoc, HO.out, hT.out]; rfl⟩, ⟨by rw [← List.drop_drop, hD.out, List.drop_drop]⟩, ⟨Kd.R_below (Kd.R_alloc hRr.out _) hb1⟩, ⟨(below_alloc' hBr.out hBr.out.size _).trans (hb1.mono (by have := hBr.out.size; simp; omega))⟩⟩
          case measure => simp [intOf]; omega
        | false =>
          have HO := Lib.hid hov
          clear hov hy0 hy1 hz0 hz1
          go_wp2_with (first | (go_at_call 86; (with_reducible refine (isOv_calls x _).mono ?_); rintro e w' ⟨rfl, hb1⟩; rw [HO.out]; obtain ⟨c0, c1⟩ := box2 (heap_below (heap_alloc_new wr _) hb1); have hR2 := Kd.R_below (Kd.R_alloc hRr.out (.cells #[.int .i64 x.f0, .string x.f1] 102)) hb1; obtain ⟨ci, hil, hMi, hci, hfi⟩ := Kd.R_elem hR2 z102 (i : Int) (by omega) (by omega); obtain rfl := k102_openM hMi; have hy0 : w'.cell? ⟨g, i * 2, none⟩ = some (.int .i64 (rd_T102 ys (i : Int)).f0) := hci 0 _ rfl; have hy1 : w'.cell? ⟨g, i * 2 + 1, none⟩ = some (.string (rd_T102 ys (i : Int)).f1) := hci 1 _ rfl; have hz0 : w'.frozen? ⟨g, i * 2, none⟩ = false := hfi 0; have hz1 : w'.frozen? ⟨g, i * 2 + 1, none⟩ = false := hfi 1; have HSEG := Lib.hid (Kd.R_seg hR2 (i : Int) (by omega) (by omega) (seg := [.int .i64 x.f0, .string x.f1]) (j := 0) hil hci (show 2 ≤ 2 by omega) (x' := x) (okp := fun _ => False) (k102_mkM _ _ _ x) (fun _ hk => hk.elim)); clear hil hMi hci hfi hR2))
          go_roundw
          case rel => exact ⟨i + 1, j + 1, ys.set i x, by go_num, by go_num, by omega, by omega, by rw [List.length_set]; exact hys, ⟨by rw [HT.out, noOv_snoc, HO.out, take_set_end _ _ _ (by omega), hT.out]; rfl⟩, ⟨by rw [List.drop_set_of_lt (by omega), ← List.drop_drop, hD.out, List.drop_drop]⟩, ⟨HSEG.out.1⟩, ⟨below_set (below_set ((below_alloc' hBr.out hBr.out.size _).trans (hb1.mono (by have := hBr.out.size; simp; omega))) HP.out) HP.out⟩⟩
          case measure => simp [intOf]; omega
      · obtain rfl : j = l.length := by omega
        have hcap : l.length ≤ c := (Kd.R_reads' hRr.out).2.1
        have hlt2 : i < l.length := hij
        have hcs : ∀ q, q < (l.length - i) * 2 → (wr.cell? ⟨g, i * 2 + q, none⟩).isSome = true ∧ wr.frozen? ⟨g, i * 2 + q, none⟩ = false := by
          intro q hq
          obtain ⟨ce, hcl, hMM, hcc, hfr⟩ := Kd.R_elem hRr.out z102 ((i + q / 2 : Nat) : Int) (by omega) (by omega)
          obtain rfl := k102_openM hMM
          rw [Int.toNat_natCast] at hcc hfr
          have e1 : i * 2 + q = (i + q / 2) * 2 + q % 2 := by omega
          have hsz : (k102).sz = 2 := rfl
          rw [hsz] at hcc hfr
          rw [e1]
          refine ⟨?_, hfr _⟩
          have : q % 2 = 0 ∨ q % 2 = 1 := by omega
          rcases this with h | h
          · rw [h, hcc 0 _ rfl]; rfl
          · rw [h, hcc 1 _ rfl]; rfl
        have hclr := clear_run wr g (i * 2) (l.length - i) (c - i) 0 (by omega) (fun q hq => (hcs q hq).1) (fun q hq => (hcs q hq).2)
        have hbeh := row_behind (Kd.R_take hRr.out (m := i) (by omega)) (i * 2) (clr (l.length - i)) (Nat.le_refl _) (by rw [clr_length]; omega)
        have HBE := Lib.hid hbeh
        clear hbeh hcs
        go_wp2
        go_ret
        refine ⟨_, rfl, ?_, ?_⟩
        · have h := HBE.out.1
          rw [hT.out, List.take_of_length_le (Nat.le_refl _)] at h
          exact h
        · exact hBr.out.trans (below_of_grown HBE.out.2 HP.out hBr.out.size)
end Go.Proofs.Ytjiojpconkhdmaa.Fs

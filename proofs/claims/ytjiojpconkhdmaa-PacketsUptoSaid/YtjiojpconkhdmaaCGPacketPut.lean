import Derived.Test.YtjiojpconkhdmaaCM9
import Derived.Test.YtjiojpconkhdmaaCGOptsPut
import Derived.Laws.Concat
namespace Go.Proofs.Ytjiojpconkhdmaa.Fs
open Go.RowKit Go.Maps Go.Proofs.YtjiojpconkhdmaaW.PrintWords Go.Proofs.YtjiojpconkhdmaaW.PrintLast Go.Proofs.YtjiojpconkhdmaaW.PrintMore
set_option linter.unusedVariables false
set_option linter.unusedSimpArgs false
-- GIVEN 12 making
def beK (k x : Int) : ByteArray := if k = 1 then be1 x else if k = 2 then be2 x else be4 x
theorem beK_size (k x : Int) : (beK k x).size ≤ 4 := by
  unfold beK
  split
  · show 1 ≤ 4; omega
  · split
    · show 2 ≤ 4; omega
    · show 4 ≤ 4; omega
theorem bytesK (x k : Int) (hk : k = 1 ∨ k = 2 ∨ k = 4) (w : World) : Calls Try.prog 36 #[.int .i64 x, .int .i64 k] w fun e w' => e = .returned (.string (beK k x)) ∧ Below w.heap.size w w' := by
  rcases hk with rfl | rfl | rfl
  · exact bytes1 x w
  · exact bytes2 x w
  · exact bytes4 x w
def fsB (fs : List (Addr × Int × Int)) : List UInt8 := fs.flatMap fun t => (beK t.2.2 t.2.1).data.toList
/-- The bytes of a packet ahead of its options. -/
def headB (a0 a1 a2 a3 a4 a5 a6 a7 a8 a9 : Int) (a10 : ByteArray) : List UInt8 :=
  (be1 a0).data.toList ++ (be1 a1).data.toList ++ (be1 (a10.size : Int)).data.toList ++ (be1 a2).data.toList ++ (be4 a3).data.toList ++ (be2 a4).data.toList ++ (be2 a5).data.toList ++ (be4 a6).data.toList ++ (be4 a7).data.toList ++ (be4 a8).data.toList ++ (be4 a9).data.toList ++ a10.data.toList ++ List.replicate (208 - a10.size) 0 ++ (be4 1669485411).data.toList
def packet_Put.f (a0 a1 a2 a3 a4 a5 a6 a7 a8 a9 : Int) (a10 : ByteArray) (l0 : List S102) : Option (ByteArray × Int) :=
  if (decide (a10.size ≤ 16) && optsMay l0 && numsFit a0 a1 a2 a3 a4 a5 a6 a7 a8 a9) = true ∧ ¬ 1200 < (optsB l0 ++ [255]).length then
    some (⟨(headB a0 a1 a2 a3 a4 a5 a6 a7 a8 a9 a10 ++ (optsB l0 ++ [255])).toArray⟩, 0)
  else some (⟨#[]⟩, 700)
def pkCells (a0 a1 a2 a3 a4 a5 a6 a7 a8 a9 : Int) (a10 : ByteArray) (v : Value) : Array Value := #[.int .i64 a0, .int .i64 a1, .int .i64 a2, .int .i64 a3, .int .i64 a4, .int .i64 a5, .int .i64 a6, .int .i64 a7, .int .i64 a8, .int .i64 a9, .string a10, v]
theorem box12 {w : World} {b t : Nat} {v0 v1 v2 v3 v4 v5 v6 v7 v8 v9 v10 v11 : Value} (h : w.heap[b]? = some (.cells #[v0, v1, v2, v3, v4, v5, v6, v7, v8, v9, v10, v11] t (0, 0))) :
    w.cell? ⟨b, 0, none⟩ = some v0 ∧ w.cell? ⟨b, 1, none⟩ = some v1 ∧ w.cell? ⟨b, 2, none⟩ = some v2 ∧ w.cell? ⟨b, 3, none⟩ = some v3 ∧ w.cell? ⟨b, 4, none⟩ = some v4 ∧ w.cell? ⟨b, 5, none⟩ = some v5 ∧ w.cell? ⟨b, 6, none⟩ = some v6 ∧ w.cell? ⟨b, 7, none⟩ = some v7 ∧ w.cell? ⟨b, 8, none⟩ = some v8 ∧ w.cell? ⟨b, 9, none⟩ = some v9 ∧ w.cell? ⟨b, 10, none⟩ = some v10 ∧ w.cell? ⟨b, 11, none⟩ = some v11 := by
  refine ⟨?_, ?_, ?_, ?_, ?_, ?_, ?_, ?_, ?_, ?_, ?_, ?_⟩ <;> simp [World.cell?, h]
structure PB (w : World) (gp gl gs : Nat) (pc : Array Value) (n : Int) : Prop where
  p : w.heap[gp]? = some (.cells pc 24 (0, 0))
  l : w.heap[gl]? = some (.cells #[.int .i64 n] 3 (0, 0))
  s : w.heap[gs]? = some (.cells (fieldCells gp gl) 77 (0, 0))
theorem heap_below {w w' : World} {k : Nat} {o : Obj} (h : w.heap[k]? = some o) (hb : Below w.heap.size w w') : w'.heap[k]? = some o := (hb.block k (Array.getElem?_eq_some_iff.1 h).1).trans h
theorem PB.below {w w' : World} {gp gl gs : Nat} {pc : Array Value} {n : Int} (h : PB w gp gl gs pc n) (hb : Below w.heap.size w w') : PB w' gp gl gs pc n := ⟨heap_below h.p hb, heap_below h.l hb, heap_below h.s hb⟩
theorem PB.alloc {w : World} {gp gl gs : Nat} {pc : Array Value} {n : Int} (h : PB w gp gl gs pc n) (o : Obj) : PB (w.alloc o) gp gl gs pc n := h.below (below_alloc (Below.refl _ _) o)
theorem PB.drew {w : World} {gp gl gs : Nat} {pc : Array Value} {n : Int} (h : PB w gp gl gs pc n) : PB w.drew gp gl gs pc n := ⟨h.p, h.l, h.s⟩
theorem fsB_length (fs : List (Addr × Int × Int)) : (fsB fs).length ≤ 4 * fs.length := by
  induction fs with
  | nil => simp [fsB]
  | cons a r ih =>
    have := beK_size a.2.2 a.2.1
    simp only [fsB, List.flatMap_cons, List.length_append, List.length_cons, data_length] at *
    omega
theorem fsB_snoc (fs : List (Addr × Int × Int)) (t : Addr × Int × Int) : fsB (fs ++ [t]) = fsB fs ++ (beK t.2.2 t.2.1).data.toList := by simp [fsB]
theorem packFs_bytes (gp gl : Nat) (a0 a1 n a2 a3 a4 a5 a6 a7 a8 a9 : Int) : (fsB (packFs gp gl a0 a1 n a2 a3 a4 a5 a6 a7 a8 a9)).length = 28 := by
  simp [fsB, packFs, beK, be1, be2, be4]
theorem headB_eq (gp gl : Nat) (a0 a1 a2 a3 a4 a5 a6 a7 a8 a9 : Int) (a10 : ByteArray) : headB a0 a1 a2 a3 a4 a5 a6 a7 a8 a9 a10 = fsB (packFs gp gl a0 a1 (a10.size : Int) a2 a3 a4 a5 a6 a7 a8 a9) ++ a10.data.toList ++ List.replicate (208 - a10.size) 0 ++ (be4 1669485411).data.toList := by
  simp [headB, fsB, packFs, beK, be1, be2, be4]
theorem PB.others {w w' : World} {gp gl gs b : Nat} {pc : Array Value} {n : Int} (h : PB w gp gl gs pc n) (ho : Lib.OthersKept 5 (some b) w w') (h1 : gp ≠ b) (h2 : gl ≠ b) (h3 : gs ≠ b) : PB w' gp gl gs pc n :=
  ⟨others_cell ho h.p (by decide) h1, others_cell ho h.l (by decide) h2, others_cell ho h.s (by decide) h3⟩
set_option maxHeartbeats 1000000 in
set_option maxRecDepth 100000 in
theorem packet_Put.calls (a0_0 a0_1 a0_2 a0_3 a0_4 a0_5 a0_6 a0_7 a0_8 a0_9 : Int) (a0_10 : ByteArray) (A0_11 : Option Addr) (c0_11 : Nat) (l0_11 : List S102) (r1 : ByteArray) (r2 : Int) (w : World) (hr0_11 : Kd.C k102 w A0_11 l0_11.length l0_11) (hc0_11 : l0_11.length ≤ c0_11) (h : packet_Put.f a0_0 a0_1 a0_2 a0_3 a0_4 a0_5 a0_6 a0_7 a0_8 a0_9 a0_10 l0_11 = some (r1, r2)) :
    Calls Try.prog 12 #[.agg #[.int .i64 a0_0, .int .i64 a0_1, .int .i64 a0_2, .int .i64 a0_3, .int .i64 a0_4, .int .i64 a0_5, .int .i64 a0_6, .int .i64 a0_7, .int .i64 a0_8, .int .i64 a0_9, .string a0_10, .slice A0_11 l0_11.length c0_11]] w fun e w' => e = .returned (.tuple #[.string r1, .int .i64 r2]) ∧ Below w.heap.size w w' := by
  have H := Lib.hid h
  have HR := Lib.hid hr0_11
  clear h hr0_11
  cases hom : optsMay l0_11 with
  | true =>
    by_cases hlong : 1200 < (optsB l0_11 ++ [255]).length
    · have hput : opts_Put.f l0_11 = some (⟨#[]⟩, 601) := by unfold opts_Put.f; rw [if_pos (show (optsOk [] l0_11 && decide (l0_11.length ≤ 32)) = true from hom), if_pos hlong]
      have HP := Lib.hid hput
      have HO := Lib.hid hom
      have HLG := Lib.hid hlong
      clear hput hom hlong
      go_enter Try.func12, Try.ntmps12
      go_wp2_with (first | (go_at_call 33; refine (opts_Put.calls A0_11 c0_11 l0_11 _ _ _ (Kd.C_alloc HR.out _) hc0_11 HP.out).mono ?_; rintro e w1 ⟨rfl, hb1⟩))
      have hf := H.out
      unfold packet_Put.f at hf
      rw [if_neg (fun h => h.2 HLG.out)] at hf
      injection hf with hf
      injection hf with h1 h2
      subst h1
      subst h2
      go_ret2
      exact ⟨rfl, (below_alloc (Below.refl _ _) _).trans (hb1.mono (by simp))⟩
    · have hput : opts_Put.f l0_11 = some (⟨(optsB l0_11 ++ [255]).toArray⟩, 0) := by unfold opts_Put.f; rw [if_pos (show (optsOk [] l0_11 && decide (l0_11.length ≤ 32)) = true from hom), if_neg hlong]
      have HP := Lib.hid hput
      have HLG := Lib.hid hlong
      clear hput hlong
      by_cases hmy : (decide (a0_10.size ≤ 16) && optsMay l0_11 && numsFit a0_0 a0_1 a0_2 a0_3 a0_4 a0_5 a0_6 a0_7 a0_8 a0_9) = true
      · have h16 : a0_10.size ≤ 16 := of_decide_eq_true (Bool.and_eq_true_iff.1 (Bool.and_eq_true_iff.1 hmy).1).1
        have HM := Lib.hid hmy
        clear hmy hom
        go_enter Try.func12, Try.ntmps12
        go_wp2_with (first | (go_at_call 33; refine (opts_Put.calls A0_11 c0_11 l0_11 _ _ _ (Kd.C_alloc HR.out _) hc0_11 HP.out).mono ?_; rintro e w1 ⟨rfl, hb1⟩; have hq1 := Lib.hid (heap_below (heap_alloc_new w _) hb1); obtain ⟨e0, e1, e2, e3, e4, e5, e6, e7, e8, e9, e10, e11⟩ := box12 hq1.out) | (go_at_call 18; refine (packet_May.calls a0_0 a0_1 a0_2 a0_3 a0_4 a0_5 a0_6 a0_7 a0_8 a0_9 a0_10 A0_11 c0_11 l0_11 true _ (Kd.C_below (Kd.C_alloc HR.out _) hb1) hc0_11 (congrArg some HM.out)).mono ?_; rintro e w2 ⟨rfl, hb2⟩; clear e0 e1 e2 e3 e4 e5 e6 e7 e8 e9 e11; have f10 := pw_cell_below (below_alloc (Below.refl _ _) (.cells #[.pointer none, .slice none 0 0] 71)) (pw_cell_below hb2 e10); clear e10) | (go_at_call 34; refine (fields_calls _ _ _).mono ?_; rintro e w3 ⟨rfl, rfl⟩))
        have hq2 := Lib.hid (heap_below hq1.out hb2)
        have hBW2 : Below w.heap.size w w2 := ((below_alloc (Below.refl _ _) _).trans (hb1.mono (by simp))).trans (hb2.mono (by have := hb1.size; simp at this; omega))
        have HBW := Lib.hid hBW2
        have hlt : w.heap.size < w2.heap.size := (Array.getElem?_eq_some_iff.1 hq2.out).1
        clear hb1 hb2 f10 hBW2
        have hn11 : (packFs w.heap.size (w2.heap.size + 1) a0_0 a0_1 (a0_10.size : Int) a0_2 a0_3 a0_4 a0_5 a0_6 a0_7 a0_8 a0_9).length = 11 := rfl
        have HN := Lib.hid hn11
        clear hn11
        have hpb0 : PB ((((w2.alloc (.cells #[.pointer none, .slice none 0 0] 71)).alloc (.cells #[.int .i64 (a0_10.size : Int)] 3)).alloc (.cells (fieldCells w.heap.size (w2.heap.size + 1)) 77)).drew) w.heap.size (w2.heap.size + 1) (w2.heap.size + 1 + 1) (pkCells a0_0 a0_1 a0_2 a0_3 a0_4 a0_5 a0_6 a0_7 a0_8 a0_9 a0_10 (.slice A0_11 l0_11.length c0_11)) (a0_10.size : Int) := by
          obtain ⟨t1, t2, t3⟩ := two_boxes w2 (.cells #[.pointer none, .slice none 0 0] 71) (.cells #[.int .i64 (a0_10.size : Int)] 3)
          refine ⟨?_, ?_, ?_⟩
          · exact (heap_alloc_old _ _ (by rw [t3]; omega)).trans ((heap_alloc_old _ _ (by simp; omega)).trans ((heap_alloc_old _ _ hlt).trans hq2.out))
          · exact (heap_alloc_old _ _ (by rw [t3]; omega)).trans t2
          · have := heap_alloc_new ((w2.alloc (.cells #[.pointer none, .slice none 0 0] 71)).alloc (.cells #[.int .i64 (a0_10.size : Int)] 3)) (.cells (fieldCells w.heap.size (w2.heap.size + 1)) 77)
            rw [t3] at this
            exact this
        have HPB := Lib.hid hpb0
        clear hpb0
        go_loopw [28] (fun i wr => ∃ k : Nat, k ≤ 11 ∧ i = .int .i64 k ∧ Aside0 (Bld w2.heap.size w2.heap.size (fsB ((packFs w.heap.size (w2.heap.size + 1) a0_0 a0_1 (a0_10.size : Int) a0_2 a0_3 a0_4 a0_5 a0_6 a0_7 a0_8 a0_9).take k)) wr) ∧ Aside0 (PB wr w.heap.size (w2.heap.size + 1) (w2.heap.size + 1 + 1) (pkCells a0_0 a0_1 a0_2 a0_3 a0_4 a0_5 a0_6 a0_7 a0_8 a0_9 a0_10 (.slice A0_11 l0_11.length c0_11)) (a0_10.size : Int)) ∧ Aside0 (Below w2.heap.size w2 wr)) (fun i _ => 11 - (intOf i).toNat)
        case atStart => exact ⟨0, by omega, rfl, ⟨(((Bld.fresh w2).alloc _).alloc _).drew⟩, ⟨HPB.out⟩, ⟨below_drew (below_alloc' (below_alloc' (below_alloc (Below.refl _ _) _) (by simp) _) (by simp; omega) _)⟩⟩
        case round =>
          obtain ⟨k, hk, rfl, hBD, hPB, hBB⟩ := hrel
          have hfa := packFs_at hPB.out.p hPB.out.l hPB.out.s
          generalize hfs : packFs w.heap.size (w2.heap.size + 1) a0_0 a0_1 (a0_10.size : Int) a0_2 a0_3 a0_4 a0_5 a0_6 a0_7 a0_8 a0_9 = fs at HN hBD hfa ⊢
          have HFS := Lib.hid hfs
          clear hfs
          by_cases hk11 : k < 11
          · obtain ⟨t, ht⟩ : ∃ t, fs[k]? = some t := ⟨_, List.getElem?_eq_getElem (by rw [HN.out]; exact hk11)⟩
            have hx0 := hfa.ptr k t ht
            have hx1 := hfa.num k t ht
            have hx2 := hfa.val k t ht
            have hw := hfa.wide k t ht
            have htk : fs.take (k + 1) = fs.take k ++ [t] := by rw [List.take_add_one, ht]; rfl
            have HT := Lib.hid htk
            clear hfa ht htk
            obtain ⟨a, x, n⟩ := t
            have hx2' := pw_cell_below (below_alloc (Below.refl _ _) (.cells #[.pointer (some a), .int .i64 n] 77)) hx2
            have HW := Lib.hid hw
            clear hw hx2
            have hln := fsB_length (fs.take k)
            rw [List.length_take_of_le (by rw [HN.out]; exact hk)] at hln
            have HLN := Lib.hid hln
            clear hln
            go_wp2
            go_region_with (first | (go_at_call 36; refine (bytesK x n HW.out _).mono ?_; rintro e w4 ⟨rfl, hbb⟩) | (go_at_call 35; refine (bld_ws w2.heap.size w2.heap.size (fsB (fs.take k)) _ _ ?_ ?_).mono ?_; exact Bld.below (Bld.drew (Bld.alloc hBD.out _)) hbb; (have h4 := beK_size n x; have h5 := HLN.out; omega); rintro e w5 ⟨rfl, hbd, hbw, hot⟩))
            all_goals
              go_wp2
              go_roundw
              case rel => exact ⟨k + 1, by omega, by go_num, ⟨by rw [HT.out, fsB_snoc]; exact hbd⟩, ⟨((hPB.out.alloc _).drew.below hbb).others hot (by omega) (by omega) (by omega)⟩, ⟨(((below_alloc' hBB.out hBB.out.size _).drew).trans (hbb.mono (by have := hBB.out.size; simp; omega))).trans hbw⟩⟩
              case measure => simp [intOf]; omega
          · obtain rfl : k = 11 := by omega
            have hc10 : wr.cell? ⟨w.heap.size, 10, none⟩ = some (.string a0_10) := by simp [World.cell?, hPB.out.p, pkCells]
            have hb0 := hBD.out
            rw [List.take_of_length_le (by rw [HN.out]; omega), ← HFS.out] at hb0
            have hl0 := packFs_bytes w.heap.size (w2.heap.size + 1) a0_0 a0_1 (a0_10.size : Int) a0_2 a0_3 a0_4 a0_5 a0_6 a0_7 a0_8 a0_9
            have hhd := headB_eq w.heap.size (w2.heap.size + 1) a0_0 a0_1 a0_2 a0_3 a0_4 a0_5 a0_6 a0_7 a0_8 a0_9 a0_10
            have HHD := Lib.hid hhd
            clear hhd hfa
            generalize fsB (packFs w.heap.size (w2.heap.size + 1) a0_0 a0_1 (a0_10.size : Int) a0_2 a0_3 a0_4 a0_5 a0_6 a0_7 a0_8 a0_9) = L0 at hb0 hl0 HHD
            have HL0 := Lib.hid hl0
            have HB0 := Lib.hid hb0
            clear hl0 hb0
            go_wp2_with fail
            refine (bld_ws w2.heap.size w2.heap.size L0 a0_10 _ HB0.out (by have := HL0.out; omega)).mono ?_
            rintro e w6 ⟨rfl, hbd6, hbw6, -⟩
            go_wp2_with fail
            refine (bld_len _ _ _ _ hbd6).mono ?_
            rintro e w7 ⟨rfl, rfl⟩
            go_wp2_with fail
            rw [show wrap64 (236 - ((L0.length : Int) + (a0_10.size : Int))) = ((208 - a0_10.size : Nat) : Int) from by have := HL0.out; have := h16; unfold wrap64; omega]
            refine (Try.strings_Repeat ⟨#[0]⟩ (208 - a0_10.size) _ (by omega) (by show 1 * _ ≤ _; omega)).mono ?_
            rintro e w8 ⟨rfl, hb8⟩
            rw [show (Lib.repeatL (ByteArray.mk #[0]).data.toList (208 - a0_10.size)) = List.replicate (208 - a0_10.size) 0 from (Lib.repeatL_replicate 0 1 _).trans (by rw [Nat.mul_one])]
            go_wp2_with fail
            refine (bld_ws w2.heap.size w2.heap.size _ _ _ (hbd6.below hb8) (by have := HL0.out; have := h16; rw [show (ByteArray.mk (Array.replicate (208 - a0_10.size) (0 : UInt8))).size = 208 - a0_10.size from Array.size_replicate]; simp only [List.length_append, data_length]; omega)).mono ?_
            rintro e w9 ⟨rfl, hbd9, hbw9, -⟩
            go_wp2_with fail
            refine (bytes4 _ _).mono ?_
            rintro e w10 ⟨rfl, hb10⟩
            have hbs : (be4 1669485411).size + (ByteArray.mk (optsB l0_11 ++ [255]).toArray).size ≤ 1204 := by have := HLG.out; show 4 + (optsB l0_11 ++ [255]).toArray.size ≤ 1204; rw [List.size_toArray]; omega
            have hadd := fun W => run_string_add_sum (P := Try.prog) W (be4 1669485411) (ByteArray.mk (optsB l0_11 ++ [255]).toArray) (by omega)
            have hyd : (be4 1669485411 ++ ByteArray.mk (optsB l0_11 ++ [255]).toArray).data.toList = (be4 1669485411).data.toList ++ (optsB l0_11 ++ [255]) := by simp
            have hys : (be4 1669485411 ++ ByteArray.mk (optsB l0_11 ++ [255]).toArray).size ≤ 1204 := by rw [ByteArray.size_append']; exact hbs
            generalize be4 1669485411 ++ ByteArray.mk (optsB l0_11 ++ [255]).toArray = y at hadd hyd hys
            have HYD := Lib.hid hyd
            clear hyd hbs
            go_wp2_with fail
            refine (bld_ws w2.heap.size w2.heap.size _ _ _ (hbd9.below hb10) (by have := HL0.out; have := h16; have := hys; have e10 : a0_10.data.size = a0_10.size := rfl; simp only [List.length_append, data_length, Array.length_toList, Array.size_replicate]; omega)).mono ?_
            rintro e w11 ⟨rfl, hbd11, hbw11, -⟩
            go_wp2_with fail
            refine (bld_string _ _ _ _ hbd11).mono ?_
            rintro e w12 ⟨rfl, -, hbw12, -⟩
            go_wp2
            have hf := H.out
            unfold packet_Put.f at hf
            rw [if_pos ⟨HM.out, HLG.out⟩] at hf
            injection hf with hf
            injection hf with h1 h2
            have hfin : headB a0_0 a0_1 a0_2 a0_3 a0_4 a0_5 a0_6 a0_7 a0_8 a0_9 a0_10 ++ (optsB l0_11 ++ [255]) = L0 ++ (a0_10.data.toList ++ (List.replicate (208 - a0_10.size) (0 : UInt8) ++ y.data.toList)) := by
              rw [HYD.out, HHD.out]; simp only [List.append_assoc]
            rw [hfin] at h1
            have hs2 := hBB.out.size
            have hs6 := hbw6.size
            have hs8 := hb8.size
            have hs9 := hbw9.size
            have hfb : Below w2.heap.size w2 w12 := ((((((hBB.out.trans hbw6).trans (hb8.mono (by omega))).trans hbw9).trans (hb10.mono (by omega))).trans hbw11).trans hbw12)
            subst h1
            subst h2
            go_ret2
            exact ⟨rfl, HBW.out.trans (hfb.mono (by omega))⟩
      · have HM := Lib.hid hmy
        clear hmy hom
        go_enter Try.func12, Try.ntmps12
        go_wp2_with (first | (go_at_call 33; refine (opts_Put.calls A0_11 c0_11 l0_11 _ _ _ (Kd.C_alloc HR.out _) hc0_11 HP.out).mono ?_; rintro e w1 ⟨rfl, hb1⟩; have hq1 := Lib.hid (heap_below (heap_alloc_new w _) hb1); obtain ⟨e0, e1, e2, e3, e4, e5, e6, e7, e8, e9, e10, e11⟩ := box12 hq1.out) | (go_at_call 18; refine (packet_May.calls a0_0 a0_1 a0_2 a0_3 a0_4 a0_5 a0_6 a0_7 a0_8 a0_9 a0_10 A0_11 c0_11 l0_11 false _ (Kd.C_below (Kd.C_alloc HR.out _) hb1) hc0_11 (congrArg some (Bool.eq_false_iff.2 HM.out))).mono ?_; rintro e w2 ⟨rfl, hb2⟩))
        have hf := H.out
        unfold packet_Put.f at hf
        rw [if_neg (fun h => HM.out h.1)] at hf
        injection hf with hf
        injection hf with h1 h2
        subst h1
        subst h2
        go_ret2
        exact ⟨rfl, ((below_alloc (Below.refl _ _) _).trans (hb1.mono (by simp))).trans (hb2.mono (by have := hb1.size; simp at this; omega))⟩
  | false =>
    have hput : opts_Put.f l0_11 = some (⟨#[]⟩, 600) := by
      unfold opts_Put.f
      have : ¬ (optsOk [] l0_11 && decide (l0_11.length ≤ 32)) = true := by unfold optsMay at hom; rw [hom]; simp
      rw [if_neg this]
    have HP := Lib.hid hput
    have HO := Lib.hid hom
    clear hput hom
    go_enter Try.func12, Try.ntmps12
    go_wp2_with (first | (go_at_call 33; refine (opts_Put.calls A0_11 c0_11 l0_11 _ _ _ (Kd.C_alloc HR.out _) hc0_11 HP.out).mono ?_; rintro e w1 ⟨rfl, hb1⟩))
    have hf := H.out
    unfold packet_Put.f at hf
    rw [if_neg (fun h => by have := h.1; rw [HO.out] at this; simp at this)] at hf
    injection hf with hf
    injection hf with h1 h2
    subst h1
    subst h2
    go_ret2
    exact ⟨rfl, (below_alloc (Below.refl _ _) _).trans (hb1.mono (by simp))⟩
end Go.Proofs.Ytjiojpconkhdmaa.Fs

import Derived.Test.YtjiojpconkhdmaaCM6
import Derived.Test.YtjiojpconkhdmaaCGJoin
import Derived.Deep.DeepCutAuto
import Derived.Deep.QuietTactic
import Derived.BigQuiet
namespace Go.Proofs.Ytjiojpconkhdmaa.Fs
open Go.RowKit Go.Maps Go.Proofs.YtjiojpconkhdmaaW.PrintWords Go.Proofs.YtjiojpconkhdmaaW.PrintLast Go.Proofs.YtjiojpconkhdmaaW.PrintMore
set_option linter.unusedVariables false
set_option linter.unusedSimpArgs false
def cookieOk (s : ByteArray) : Prop := 240 ≤ s.size ∧ s.extract 236 240 = be4 1669485411
instance (s : ByteArray) : Decidable (cookieOk s) := by unfold cookieOk; infer_instance
def isPkt (s : ByteArray) : Bool := decide (cookieOk s) && decide (numK s 2 ≤ 16) && (partsP s.data.toList).2
def zeroPk (v : Value) : Value := .agg #[.int .i64 0, .int .i64 0, .int .i64 0, .int .i64 0, .int .i64 0, .int .i64 0, .int .i64 0, .int .i64 0, .int .i64 0, .int .i64 0, .string ⟨#[]⟩, v]
def pkOf (s : ByteArray) (v : Value) : Value := .agg #[.int .i64 (numK s 0), .int .i64 (numK s 1), .int .i64 (numK s 3), .int .i64 (numK s 4), .int .i64 (numK s 5), .int .i64 (numK s 6), .int .i64 (numK s 7), .int .i64 (numK s 8), .int .i64 (numK s 9), .int .i64 (numK s 10), .string (s.extract 28 (28 + (numK s 2).toNat)), v]
theorem toList_beq (a b : ByteArray) : (a.toList == b.toList) = decide (a = b) := by
  rw [Lib.toList_data, Lib.toList_data]
  by_cases h : a = b
  · subst h; simp
  · rw [decide_eq_false h]
    exact beq_eq_false_iff_ne.2 (fun e => h (by cases a; cases b; congr 1; exact Array.ext' e))
theorem cookie_val (s : ByteArray) (h : 240 ≤ s.size) : (!(s.extract 236 240).toList == (be4 1669485411).toList) = !decide (cookieOk s) := by
  rw [toList_beq]
  unfold cookieOk
  by_cases hc : s.extract 236 240 = be4 1669485411 <;> simp [hc, h]
theorem PB.keep {w w' : World} {gp gl gs g : Nat} {pc : Array Value} {n : Int} (h : PB w gp gl gs pc n) (hk : KeepBut w w' g none) (h1 : gp ≠ g) (h2 : gl ≠ g) (h3 : gs ≠ g) : PB w' gp gl gs pc n :=
  ⟨hk.blk h.p h1 (by simp), hk.blk h.l h2 (by simp), hk.blk h.s h3 (by simp)⟩
theorem PB.frozen {w : World} {gp gl gs : Nat} {pc : Array Value} {n : Int} (h : PB w gp gl gs pc n) {a : Addr} (hab : a.block = gp ∨ a.block = gl) (hs : a.spot = none) : w.frozen? a = false := by
  obtain ⟨ab, ao, sp⟩ := a
  simp only at hab hs
  subst hs
  rcases hab with rfl | rfl
  · exact blk_frozen h.p _
  · exact blk_frozen h.l _
theorem pkN_11 (N : Nat → Int) : pkN N 11 = #[.int .i64 (N 0), .int .i64 (N 1), .int .i64 (N 3), .int .i64 (N 4), .int .i64 (N 5), .int .i64 (N 6), .int .i64 (N 7), .int .i64 (N 8), .int .i64 (N 9), .int .i64 (N 10), .string ⟨#[]⟩, .slice none 0 0] := rfl
theorem PB.full {w : World} {gp gl gs : Nat} {N : Nat → Int} {n : Int} (h : PB w gp gl gs (pkN N 11) n) : w.heap[gp]? = some (.cells #[.int .i64 (N 0), .int .i64 (N 1), .int .i64 (N 3), .int .i64 (N 4), .int .i64 (N 5), .int .i64 (N 6), .int .i64 (N 7), .int .i64 (N 8), .int .i64 (N 9), .int .i64 (N 10), .string ⟨#[]⟩, .slice none 0 0] 24 (0, 0)) := h.p
theorem vN_2 (N : Nat → Int) : vN N 11 2 = N 2 := rfl
def zero24 : Array Value := #[.int .i64 0, .int .i64 0, .int .i64 0, .int .i64 0, .int .i64 0, .int .i64 0, .int .i64 0, .int .i64 0, .int .i64 0, .int .i64 0, .string ⟨#[]⟩, .slice none 0 0]
theorem zero24_set (v0 v1 v2 v3 v4 v5 v6 v7 v8 v9 v10 v11 : Value) : ((((((((((((zero24.setIfInBounds 0 v0).setIfInBounds 1 v1).setIfInBounds 2 v2).setIfInBounds 3 v3).setIfInBounds 4 v4).setIfInBounds 5 v5).setIfInBounds 6 v6).setIfInBounds 7 v7).setIfInBounds 8 v8).setIfInBounds 9 v9).setIfInBounds 10 v10).setIfInBounds 11 v11) = #[v0, v1, v2, v3, v4, v5, v6, v7, v8, v9, v10, v11] := by
  apply Array.ext'
  simp only [Array.toList_setIfInBounds]
  rfl
theorem set12 {w : World} {g : Nat} (h : w.heap[g]? = some (.cells zero24 24 (0, 0))) (v0 v1 v2 v3 v4 v5 v6 v7 v8 v9 v10 v11 : Value) :
    ((((((((((((w.setCell ⟨g, 0, none⟩ v0).setCell ⟨g, 1, none⟩ v1).setCell ⟨g, 2, none⟩ v2).setCell ⟨g, 3, none⟩ v3).setCell ⟨g, 4, none⟩ v4).setCell ⟨g, 5, none⟩ v5).setCell ⟨g, 6, none⟩ v6).setCell ⟨g, 7, none⟩ v7).setCell ⟨g, 8, none⟩ v8).setCell ⟨g, 9, none⟩ v9).setCell ⟨g, 10, none⟩ v10).setCell ⟨g, 11, none⟩ v11).heap[g]? = some (.cells #[v0, v1, v2, v3, v4, v5, v6, v7, v8, v9, v10, v11] 24 (0, 0)) := by
  have h0 := blk_set h 0 v0
  have h1 := blk_set h0 1 v1
  have h2 := blk_set h1 2 v2
  have h3 := blk_set h2 3 v3
  have h4 := blk_set h3 4 v4
  have h5 := blk_set h4 5 v5
  have h6 := blk_set h5 6 v6
  have h7 := blk_set h6 7 v7
  have h8 := blk_set h7 8 v8
  have h9 := blk_set h8 9 v9
  have h10 := blk_set h9 10 v10
  have h11 := blk_set h10 11 v11
  rw [zero24_set] at h11
  exact h11
theorem below12 {B : Nat} {w0 w : World} {g : Nat} (h : Below B w0 w) (hg : B ≤ g) (v0 v1 v2 v3 v4 v5 v6 v7 v8 v9 v10 v11 : Value) :
    Below B w0 ((((((((((((w.setCell ⟨g, 0, none⟩ v0).setCell ⟨g, 1, none⟩ v1).setCell ⟨g, 2, none⟩ v2).setCell ⟨g, 3, none⟩ v3).setCell ⟨g, 4, none⟩ v4).setCell ⟨g, 5, none⟩ v5).setCell ⟨g, 6, none⟩ v6).setCell ⟨g, 7, none⟩ v7).setCell ⟨g, 8, none⟩ v8).setCell ⟨g, 9, none⟩ v9).setCell ⟨g, 10, none⟩ v10).setCell ⟨g, 11, none⟩ v11) :=
  (((((((((((h.setCell hg v0).setCell hg v1).setCell hg v2).setCell hg v3).setCell hg v4).setCell hg v5).setCell hg v6).setCell hg v7).setCell hg v8).setCell hg v9).setCell hg v10).setCell hg v11
theorem far12 {w : World} {g k : Nat} (hk : k ≠ g) (v0 v1 v2 v3 v4 v5 v6 v7 v8 v9 v10 v11 : Value) : ((((((((((((w.setCell ⟨g, 0, none⟩ v0).setCell ⟨g, 1, none⟩ v1).setCell ⟨g, 2, none⟩ v2).setCell ⟨g, 3, none⟩ v3).setCell ⟨g, 4, none⟩ v4).setCell ⟨g, 5, none⟩ v5).setCell ⟨g, 6, none⟩ v6).setCell ⟨g, 7, none⟩ v7).setCell ⟨g, 8, none⟩ v8).setCell ⟨g, 9, none⟩ v9).setCell ⟨g, 10, none⟩ v10).setCell ⟨g, 11, none⟩ v11).heap[k]? = w.heap[k]? := ((Below.heap_setCell _ _ _ k hk).trans ((Below.heap_setCell _ _ _ k hk).trans ((Below.heap_setCell _ _ _ k hk).trans ((Below.heap_setCell _ _ _ k hk).trans ((Below.heap_setCell _ _ _ k hk).trans ((Below.heap_setCell _ _ _ k hk).trans ((Below.heap_setCell _ _ _ k hk).trans ((Below.heap_setCell _ _ _ k hk).trans ((Below.heap_setCell _ _ _ k hk).trans ((Below.heap_setCell _ _ _ k hk).trans ((Below.heap_setCell _ _ _ k hk).trans (Below.heap_setCell _ _ _ k hk))))))))))))
set_option maxHeartbeats 4000000 in
set_option maxRecDepth 100000 in
theorem packet_Get_calls (s : ByteArray) (hN : s.size ≤ 1000000000000) (w : World) :
    Calls Try.prog 14 #[.string s] w fun e w' => (∃ v0_ : Value, e = .returned (.tuple #[if isPkt s = true then pkOf s v0_ else zeroPk v0_, .int .i64 (if isPkt s = true then 0 else 700)]) ∧ Kd.R k102 102 w' w.heap.size (fun _ => True) v0_ (if isPkt s = true then (partsP s.data.toList).1 else [])) ∧ Below w.heap.size w w' := by
  have HN := Lib.hid hN
  have hs63 : s.size ≤ 9223372036854775807 := by omega
  obtain ⟨pk, hpk⟩ : ∃ b, b = isPkt s := ⟨_, rfl⟩
  rw [← hpk]
  have HPK := Lib.hid hpk
  clear hpk
  obtain ⟨⟨pa, pb⟩, hpp⟩ : ∃ p, p = partsP s.data.toList := ⟨_, rfl⟩
  rw [← hpp]
  have HPP := Lib.hid hpp
  clear hpp hN
  go_enter Try.func14, Try.ntmps14
  go_upto_region 1 with fail
  go_cut [19] (fun v19 wx => v19 = .bool (!decide (cookieOk s)) ∧ Aside0 (Below (w.heap.size + 1) (w.alloc (.cells zero24 24)) wx))
  case first =>
    by_cases h240 : 240 ≤ s.size
    · have hd : decide ((s.size : Int) < 240) = false := decide_eq_false (by omega)
      go_region_with (first | (go_at_call 36; refine (bytes4 _ _).mono ?_; rintro e w1 ⟨rfl, hb1⟩))
      all_goals go_wp2_with fail
      all_goals go_meet
      all_goals exact ⟨congrArg Value.bool (cookie_val s h240), ⟨(below_drew (Below.refl _ _)).trans (hb1.mono (by simp))⟩⟩
    · have hd : decide ((s.size : Int) < 240) = true := decide_eq_true (by omega)
      go_quiet (fail)
      go_wp2_with fail
      go_meet
      case rel =>
        refine ⟨congrArg Value.bool (by rw [decide_eq_false (fun h => h240 h.1)]; rfl), ⟨?_⟩⟩
        first
        | exact below_drew (Below.refl _ _)
        | exact pw_below_drewN (Below.refl _ _) _
        | exact Below.refl _ _
  case rest =>
    obtain ⟨rfl, hbx⟩ := hcut
    have hres := Lib.hid (hbx.out.block w.heap.size (by omega) |>.trans (heap_alloc_new w _))
    by_cases hck : cookieOk s
    · rw [decide_eq_true hck]
      have h240 : 240 ≤ s.size := hck.1
      have HCK := Lib.hid hck
      have HBX := Lib.hid hbx.out
      have hlw : w.heap.size + 1 ≤ wc.heap.size := by have := hbx.out.size; simpa using this
      clear hbx hck
      go_wp2_with (first | (go_at_call 34; refine (fields_calls _ _ _).mono ?_; rintro e w3 ⟨rfl, rfl⟩))
      have hpb0 : PB ((((((wc.alloc (.cells zero24 24)).alloc (.cells #[.int .i64 0] 3)).alloc (.cells #[.string s, .int .i64 0, .bool false] 89)).alloc (.cells (fieldCells wc.heap.size (wc.heap.size + 1)) 77)).drew)) wc.heap.size (wc.heap.size + 1) (wc.heap.size + 3) (pkN (numK s) 0) (vN (numK s) 0 2) := by
        refine ⟨?_, ?_, ?_⟩
        · exact (heap_alloc_old _ _ (by simp <;> omega)).trans ((heap_alloc_old _ _ (by simp <;> omega)).trans ((heap_alloc_old _ _ (by simp)).trans (heap_alloc_new _ _)))
        · have h := heap_alloc_new (wc.alloc (.cells zero24 24)) (.cells #[.int .i64 0] 3)
          simp only [World.alloc, Array.size_push] at h
          exact (heap_alloc_old _ _ (by simp <;> omega)).trans ((heap_alloc_old _ _ (by simp)).trans h)
        · have h := heap_alloc_new (((wc.alloc (.cells zero24 24)).alloc (.cells #[.int .i64 0] 3)).alloc (.cells #[.string s, .int .i64 0, .bool false] 89)) (.cells (fieldCells wc.heap.size (wc.heap.size + 1)) 77)
          simp only [World.alloc, Array.size_push] at h
          exact h
      have HPB := Lib.hid hpb0
      have hit0 : IsS89 wc ((((((wc.alloc (.cells zero24 24)).alloc (.cells #[.int .i64 0] 3)).alloc (.cells #[.string s, .int .i64 0, .bool false] 89)).alloc (.cells (fieldCells wc.heap.size (wc.heap.size + 1)) 77)).drew)) (wc.heap.size + 2) s (offK 0 : Int) false := by
        have h := heap_alloc_new ((wc.alloc (.cells zero24 24)).alloc (.cells #[.int .i64 0] 3)) (.cells #[.string s, .int .i64 0, .bool false] 89)
        simp only [World.alloc, Array.size_push] at h
        exact ⟨(heap_alloc_old _ _ (by simp)).trans h, by omega⟩
      have HIT := Lib.hid hit0
      clear hpb0 hit0
      go_loopw [26] (fun i wr => ∃ k : Nat, k ≤ 11 ∧ i = .int .i64 k ∧ Aside0 (PB wr wc.heap.size (wc.heap.size + 1) (wc.heap.size + 3) (pkN (numK s) k) (vN (numK s) k 2)) ∧ Aside0 (IsS89 wc wr (wc.heap.size + 2) s (offK k : Int) false) ∧ Aside0 (Below wc.heap.size wc wr)) (fun i _ => 11 - (intOf i).toNat)
      case atStart => exact ⟨0, by omega, rfl, ⟨HPB.out⟩, ⟨HIT.out⟩, ⟨below_drew (below_alloc' (below_alloc' (below_alloc' (below_alloc (Below.refl _ _) _) (by simp) _) (by simp <;> omega) _) (by simp <;> omega) _)⟩⟩
      case round =>
        obtain ⟨k, hk, rfl, hPB, hIT, hBw⟩ := hrel
        by_cases hk11 : k < 11
        · obtain ⟨⟨a, x, n⟩, ht, hwd, hab, hsp, hstep⟩ := packN_at wc.heap.size (wc.heap.size + 1) (numK s) k hk11
          have hfa := hPB.out.at_
          have hx0 := hfa.ptr k _ ht
          have hx1 := hfa.num k _ ht
          clear hfa
          simp only at hwd hab hsp hstep
          subst hwd
          have HT := Lib.hid ht
          have HSTEP := Lib.hid hstep
          have HAB := Lib.hid hab
          have HSP := Lib.hid hsp
          have hTK := Lib.hid (taker_k s k hk11 (by omega) HN.out)
          have hws := hBw.out.size
          have hwsg := (Array.getElem?_eq_some_iff.1 hPB.out.s).1
          clear ht hstep hab hsp
          have hbq : ∀ o : Obj, Below wc.heap.size wc ((wr.alloc o).drew) := fun o => below_drew (below_alloc' hBw.out hws o)
          have HBQ := Lib.hid hbq
          clear hbq
          go_wp2
          go_region_with (first | (go_at_call 42; refine (rr_Taker_Num.calls (wc.heap.size + 2) s (offK k : Int) false (widK k : Int) (numK s k) s (offK (k + 1) : Int) false wc _ (IsS89.drew (IsS89.alloc hIT.out _)) (HBQ.out _) hTK.out).mono ?_; rintro e w4 ⟨rfl, hit4, hb4, hk4⟩; have hpb4 := ((hPB.out.alloc _).drew).keep hk4 (by omega) (by omega) (by omega); obtain ⟨y0, y1⟩ := box2 (hk4.blk (heap_alloc_new wr _) (by omega) (by simp)); have hval := hpb4.at_.val k _ HT.out; have hfz := hpb4.frozen HAB.out HSP.out))
          all_goals
            go_wp2
            go_roundw
            case rel => exact ⟨k + 1, by omega, by go_num, ⟨HSTEP.out _ _ hpb4 (by omega) (by omega) (by omega)⟩, ⟨hit4.far (by have := HAB.out; omega) _⟩, ⟨hb4.setCell (by have := HAB.out; omega) _⟩⟩
            case measure => simp [intOf]; omega
        · obtain rfl : k = 11 := by omega
          obtain ⟨n, hn, hnk⟩ := numK2 s (by omega)
          have hl2 : wr.heap[wc.heap.size + 1]? = some (.cells #[.int .i64 (n : Int)] 3 (0, 0)) := by
            have h := hPB.out.l
            rw [vN_2, hnk] at h
            exact h
          have hgl : wr.cell? ⟨wc.heap.size + 1, 0, none⟩ = some (.int .i64 (n : Int)) := by simp [World.cell?, hl2]
          have hparts : ∀ W, Calls Try.prog 43 #[.string s] W fun e w' => ∃ v0_, e = .returned (.tuple #[v0_, .bool pb]) ∧ Kd.R k102 102 w' W.heap.size (fun _ => True) v0_ pa ∧ Below W.heap.size W w' := by
            intro W
            have h := parts_calls s s.data.toList rfl (by rw [data_length]; exact h240) (by rw [data_length]; exact HN.out) W
            rw [← HPP.out] at h
            exact h
          have HPT := Lib.hid hparts
          have hpk2 : pk = (decide ((n : Int) ≤ 16) && pb) := by rw [HPK.out]; unfold isPkt; rw [hnk, ← HPP.out, decide_eq_true HCK.out, Bool.true_and]
          have hwsz : wc.heap.size + 3 < wr.heap.size := (Array.getElem?_eq_some_iff.1 hPB.out.s).1
          have hresr := Lib.hid ((hBw.out.block w.heap.size (by omega)).trans hres.out)
          have hbr : Below w.heap.size w wr := ((below_alloc (Below.refl w.heap.size w) _).trans (HBX.out.mono (by omega))).trans (hBw.out.mono (by omega))
          have HBR := Lib.hid hbr
          have HNK := Lib.hid hnk
          clear hparts hl2 hbr hnk
          by_cases h16 : n ≤ 16
          · cases pb with
            | true =>
              obtain rfl : pk = true := by rw [hpk2, decide_eq_true (by omega)]; rfl
              have HSM := Lib.hid (some_eq s n h16 h240 HN.out)
              clear hpk2
              go_wp2_with (first | (go_at_call 43; refine (HPT.out _).mono ?_; rintro e w5 ⟨v5, rfl, hv5, hb5⟩; have hl5 := pw_cell_below hb5 hgl; have hs5 := hb5.size; have HV5 := Lib.hid hv5; obtain ⟨A5, c5, rfl⟩ := Kd.R_slice hv5) | (go_at_call 44; refine (rr_Taker_Some.calls (wc.heap.size + 2) s (offK 11 : Int) false (n : Int) _ _ _ false wc _ (hIT.out.below hb5) (hBw.out.trans (hb5.mono (by omega))) HSM.out).mono ?_; rintro e w6 ⟨rfl, hit6, hb6, hk6⟩; have hp6 := ((hPB.out.below hb5).keep hk6 (by omega) (by omega) (by omega)).full; obtain ⟨d0, d1, d2, d3, d4, d5, d6, d7, d8, d9, d10, d11⟩ := box12 hp6; have g10 := blk_frozen hp6 10; have g11 := blk_frozen hp6 11; have hres6 := hk6.blk (heap_below hresr.out hb5) (by omega) (by simp); obtain ⟨e0, e1, e2, e3, e4, e5, e6, e7, e8, e9, e10, e11⟩ := box12 hres6; have f0 := blk_frozen hres6 0; have f1 := blk_frozen hres6 1; have f2 := blk_frozen hres6 2; have f3 := blk_frozen hres6 3; have f4 := blk_frozen hres6 4; have f5 := blk_frozen hres6 5; have f6 := blk_frozen hres6 6; have f7 := blk_frozen hres6 7; have f8 := blk_frozen hres6 8; have f9 := blk_frozen hres6 9; have f10 := blk_frozen hres6 10; have f11 := blk_frozen hres6 11))
              refine bodyPost_ret (results_ct rfl _ _ w.heap.size 24 #[.int .i64 (numK s 0), .int .i64 (numK s 1), .int .i64 (numK s 3), .int .i64 (numK s 4), .int .i64 (numK s 5), .int .i64 (numK s 6), .int .i64 (numK s 7), .int .i64 (numK s 8), .int .i64 (numK s 9), .int .i64 (numK s 10), .string (s.extract 28 (28 + n)), .slice A5 pa.length c5] (0, 0) _ rfl (set12 (blk_far (blk_far hres6 (by simp; omega) _) (by simp; omega) _) _ _ _ _ _ _ _ _ _ _ _ _) Try.underlying24 rfl (by kernel_rfl)) rfl ?_
              have hpo : pkOf s (.slice A5 pa.length c5) = .agg #[.int .i64 (numK s 0), .int .i64 (numK s 1), .int .i64 (numK s 3), .int .i64 (numK s 4), .int .i64 (numK s 5), .int .i64 (numK s 6), .int .i64 (numK s 7), .int .i64 (numK s 8), .int .i64 (numK s 9), .int .i64 (numK s 10), .string (s.extract 28 (28 + n)), .slice A5 pa.length c5] := by unfold pkOf; rw [HNK.out, Int.toNat_natCast]
              have hww : Below w.heap.size w wc := (below_alloc (Below.refl w.heap.size w) _).trans (HBX.out.mono (by omega))
              refine ⟨⟨.slice A5 pa.length c5, ?_, ?_⟩, ?_⟩
              · rw [hpo]; rfl
              · refine Kd.R_mono (Kd.R_lower (Kd.R_move (Kd.R_bound HV5.out) (fun k hk => ?_)) (by omega)) (fun _ _ => trivial)
                obtain ⟨_, hk1, hk2, _⟩ := hk
                exact (far12 (by omega) _ _ _ _ _ _ _ _ _ _ _ _).trans ((Below.heap_setCell _ _ _ k (by simp; omega)).trans ((Below.heap_setCell _ _ _ k (by simp; omega)).trans (hk6.2 k hk2 (by omega) (by simp))))
              · exact below12 (((hww.trans (hb6.mono (by omega))).setCell (by simp; omega) _).setCell (by simp; omega) _) (Nat.le_refl _) _ _ _ _ _ _ _ _ _ _ _ _
            | false =>
              obtain rfl : pk = false := by rw [hpk2, Bool.and_false]
              clear hpk2
              go_wp2_with (first | (go_at_call 43; refine (HPT.out _).mono ?_; rintro e w5 ⟨v5, rfl, hv5, hb5⟩; have hl5 := pw_cell_below hb5 hgl; have hres5 := heap_below hresr.out hb5; obtain ⟨e0, e1, e2, e3, e4, e5, e6, e7, e8, e9, e10, e11⟩ := box12 hres5; have f0 := blk_frozen hres5 0; have f1 := blk_frozen hres5 1; have f2 := blk_frozen hres5 2; have f3 := blk_frozen hres5 3; have f4 := blk_frozen hres5 4; have f5 := blk_frozen hres5 5; have f6 := blk_frozen hres5 6; have f7 := blk_frozen hres5 7; have f8 := blk_frozen hres5 8; have f9 := blk_frozen hres5 9; have f10 := blk_frozen hres5 10; have f11 := blk_frozen hres5 11))
              refine bodyPost_ret (results_ct rfl _ _ w.heap.size 24 zero24 (0, 0) _ rfl (set12 (heap_below hresr.out hb5) _ _ _ _ _ _ _ _ _ _ _ _) Try.underlying24 rfl (by kernel_rfl)) rfl ?_
              refine ⟨⟨.slice none 0 0, rfl, Kd.R_nil _ _ _ _ _⟩, ?_⟩
              exact below12 (HBR.out.trans (hb5.mono (by omega))) (Nat.le_refl _) _ _ _ _ _ _ _ _ _ _ _ _
          · obtain rfl : pk = false := by rw [hpk2, decide_eq_false (by omega)]; rfl
            clear hpk2
            go_wp2_with (first | (go_at_call 43; refine (HPT.out _).mono ?_; rintro e w5 ⟨v5, rfl, hv5, hb5⟩; have hl5 := pw_cell_below hb5 hgl; have hres5 := heap_below hresr.out hb5; obtain ⟨e0, e1, e2, e3, e4, e5, e6, e7, e8, e9, e10, e11⟩ := box12 hres5; have f0 := blk_frozen hres5 0; have f1 := blk_frozen hres5 1; have f2 := blk_frozen hres5 2; have f3 := blk_frozen hres5 3; have f4 := blk_frozen hres5 4; have f5 := blk_frozen hres5 5; have f6 := blk_frozen hres5 6; have f7 := blk_frozen hres5 7; have f8 := blk_frozen hres5 8; have f9 := blk_frozen hres5 9; have f10 := blk_frozen hres5 10; have f11 := blk_frozen hres5 11))
            refine bodyPost_ret (results_ct rfl _ _ w.heap.size 24 zero24 (0, 0) _ rfl (set12 (heap_below hresr.out hb5) _ _ _ _ _ _ _ _ _ _ _ _) Try.underlying24 rfl (by kernel_rfl)) rfl ?_
            refine ⟨⟨.slice none 0 0, rfl, Kd.R_nil _ _ _ _ _⟩, ?_⟩
            exact below12 (HBR.out.trans (hb5.mono (by omega))) (Nat.le_refl _) _ _ _ _ _ _ _ _ _ _ _ _
    · rw [decide_eq_false hck]
      obtain rfl : pk = false := by rw [HPK.out]; unfold isPkt; simp [hck]
      obtain ⟨e0, e1, e2, e3, e4, e5, e6, e7, e8, e9, e10, e11⟩ := box12 hres.out
      have f0 := blk_frozen hres.out 0
      have f1 := blk_frozen hres.out 1
      have f2 := blk_frozen hres.out 2
      have f3 := blk_frozen hres.out 3
      have f4 := blk_frozen hres.out 4
      have f5 := blk_frozen hres.out 5
      have f6 := blk_frozen hres.out 6
      have f7 := blk_frozen hres.out 7
      have f8 := blk_frozen hres.out 8
      have f9 := blk_frozen hres.out 9
      have f10 := blk_frozen hres.out 10
      have f11 := blk_frozen hres.out 11
      have HBX := Lib.hid hbx.out
      go_wp2
      refine bodyPost_ret (results_ct rfl _ _ w.heap.size 24 zero24 (0, 0) _ rfl (set12 hres.out _ _ _ _ _ _ _ _ _ _ _ _) Try.underlying24 rfl (by kernel_rfl)) rfl ?_
      refine ⟨⟨.slice none 0 0, rfl, Kd.R_nil _ _ _ _ _⟩, ?_⟩
      exact below12 (((below_alloc (Below.refl w.heap.size w) _)).trans (HBX.out.mono (by omega))) (Nat.le_refl _) _ _ _ _ _ _ _ _ _ _ _ _
end Go.Proofs.Ytjiojpconkhdmaa.Fs

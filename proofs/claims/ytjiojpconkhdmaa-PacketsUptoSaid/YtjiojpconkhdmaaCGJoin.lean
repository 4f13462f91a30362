import Derived.Test.YtjiojpconkhdmaaCM3
import Derived.RegionTactic
import Derived.BigRegion
import Derived.Deep.RegionWith
import Derived.WalkSpells
namespace Go.Proofs.Ytjiojpconkhdmaa.Fs
open Go.RowKit Go.Maps Go.Proofs.YtjiojpconkhdmaaW.PrintWords Go.Proofs.YtjiojpconkhdmaaW.PrintLast Go.Proofs.YtjiojpconkhdmaaW.PrintMore
set_option linter.unusedVariables false
set_option linter.unusedSimpArgs false
-- GIVEN 84 making
/-- Where a code stands. -/
def idxOf (c : Int) : List S102 → Option Nat
  | [] => none
  | o :: r => if o.f0 = c then some 0 else (idxOf c r).map (· + 1)
/-- Options, and one more: data of one code are one option's. -/
def joinOne (out : List S102) (o : S102) : List S102 :=
  match idxOf o.f0 out with
  | some i => out.set i ⟨o.f0, (out.getD i z102).f1 ++ o.f1⟩
  | none => out ++ [o]
def joinAll (out l : List S102) : List S102 := l.foldl joinOne out
def tot (l : List S102) : Nat := (l.map (·.f1.size)).sum
def JoinFit (l0 l1 : List S102) : Prop := (codes l0).Nodup ∧ (∀ o ∈ l0 ++ l1, 0 ≤ o.f0 ∧ o.f0 ≤ 255) ∧ tot l0 + tot l1 ≤ 1152921504606846976 ∧ l0.length + l1.length ≤ 1099511627776
instance (l0 l1 : List S102) : Decidable (JoinFit l0 l1) := by unfold JoinFit; infer_instance
def opts_Join.f (l0 l1 : List S102) : Option (List S102) := if JoinFit l0 l1 then some (joinAll l0 l1) else none

theorem idxOf_append (c : Int) (l r : List S102) : idxOf c (l ++ r) = match idxOf c l with | some i => some i | none => (idxOf c r).map (· + l.length) := by
  induction l with
  | nil => simp [idxOf]
  | cons a l ih =>
    simp only [List.cons_append, idxOf]
    split
    · rfl
    · rw [ih]
      cases h : idxOf c l with
      | some i => simp
      | none => cases h2 : idxOf c r <;> simp [Nat.add_assoc]
theorem idxOf_none {c : Int} {l : List S102} : idxOf c l = none ↔ c ∉ codes l := by
  induction l with
  | nil => simp [idxOf, codes]
  | cons a l ih =>
    simp only [idxOf, codes, List.map_cons, List.mem_cons, not_or] at *
    split
    · rename_i h; simp [h]
    · rename_i h
      rw [Option.map_eq_none_iff, ih]
      exact ⟨fun h1 => ⟨fun e => h e.symm, h1⟩, fun h1 => h1.2⟩
theorem idxOf_lt {c : Int} {l : List S102} {i : Nat} (h : idxOf c l = some i) : i < l.length ∧ (l.getD i z102).f0 = c := by
  induction l generalizing i with
  | nil => simp [idxOf] at h
  | cons a l ih =>
    simp only [idxOf] at h
    split at h
    · rename_i h1; injection h with h; subst h; simp [h1]
    · obtain ⟨j, hj, rfl⟩ := Option.map_eq_some_iff.1 h
      obtain ⟨h1, h2⟩ := ih hj
      exact ⟨by simp; omega, by simpa using h2⟩
theorem codes_set (l : List S102) (i : Nat) (d : ByteArray) (h : i < l.length) : codes (l.set i ⟨(l.getD i z102).f0, d⟩) = codes l := by
  unfold codes
  rw [List.map_set]
  apply List.ext_getElem (by simp)
  intro j h1 h2
  rw [List.getElem_set]
  split
  · rename_i e; subst e; simp [List.getD_eq_getElem?_getD, h]
  · rfl
theorem idxOf_codes {l l' : List S102} (h : codes l = codes l') (c : Int) : idxOf c l = idxOf c l' := by
  induction l generalizing l' with
  | nil => cases l' with
    | nil => rfl
    | cons a r => simp [codes] at h
  | cons a l ih => cases l' with
    | nil => simp [codes] at h
    | cons b r =>
      simp only [codes, List.map_cons, List.cons.injEq] at h
      simp only [idxOf]
      rw [h.1, ih h.2]
theorem joinOne_codes (out : List S102) (o : S102) (h : (codes out).Nodup) : (codes (joinOne out o)).Nodup := by
  unfold joinOne
  split
  · rename_i i hi
    obtain ⟨h1, h2⟩ := idxOf_lt hi
    rw [← h2, codes_set _ _ _ h1]
    exact h
  · rename_i hi
    have := idxOf_none.1 hi
    unfold codes at *
    rw [List.map_append, List.nodup_append]
    refine ⟨h, by simp, ?_⟩
    intro a ha b hb e
    simp at hb
    subst hb
    subst e
    exact this ha
theorem tot_append (l r : List S102) : tot (l ++ r) = tot l + tot r := by simp [tot]
theorem tot_set (l : List S102) (i : Nat) (x : S102) (h : i < l.length) : tot (l.set i x) + (l.getD i z102).f1.size = tot l + x.f1.size := by
  induction l generalizing i with
  | nil => simp at h
  | cons a l ih =>
    cases i with
    | zero => simp [tot]; omega
    | succ i =>
      have := ih i (by simpa using h)
      simp only [tot, List.set_cons_succ, List.map_cons, List.sum_cons, List.getD_cons_succ] at *
      omega
theorem tot_joinOne (out : List S102) (o : S102) : tot (joinOne out o) = tot out + o.f1.size := by
  unfold joinOne
  split
  · rename_i i hi
    have := tot_set out i ⟨o.f0, (out.getD i z102).f1 ++ o.f1⟩ (idxOf_lt hi).1
    simp only [ByteArray.size_append] at this
    omega
  · rw [tot_append]; simp [tot]
theorem getD_tot (l : List S102) (i : Nat) : (l.getD i z102).f1.size ≤ tot l := by
  induction l generalizing i with
  | nil => simp [z102]; exact Nat.le_refl _
  | cons a l ih =>
    cases i with
    | zero => simp [tot]
    | succ i => have := ih i; simp only [List.getD_cons_succ, tot, List.map_cons, List.sum_cons] at *; omega
theorem length_joinOne (out : List S102) (o : S102) : (joinOne out o).length ≤ out.length + 1 := by
  unfold joinOne
  split <;> simp
/-- The map of the places. -/
def atOf (l : List S102) : Lit → Option Lit
  | .int .i64 c => (idxOf c l).map fun i => .int .i64 (i : Int)
  | _ => none
theorem atOf_nil : atOf [] = fun _ => none := by
  funext x
  unfold atOf
  split <;> simp [idxOf]
theorem atOf_put (l : List S102) (o : S102) (h : o.f0 ∉ codes l) : putg (atOf l) (.int .i64 o.f0) (.int .i64 (l.length : Int)) = atOf (l ++ [o]) := by
  funext x
  unfold putg
  by_cases hx : x = .int .i64 o.f0
  · rw [if_pos hx]; subst hx
    simp only [atOf]
    rw [idxOf_append, idxOf_none.2 h]
    simp [idxOf]
  · rw [if_neg hx]
    unfold atOf
    split
    · rename_i c
      have hc : ¬ o.f0 = c := fun e => hx (by rw [e])
      rw [idxOf_append]
      cases h1 : idxOf c l <;> simp [idxOf, hc]
    · rfl
theorem atOf_codes {l l' : List S102} (h : codes l = codes l') : atOf l = atOf l' := by
  funext x
  unfold atOf
  split
  · rw [idxOf_codes h]
  · rfl
theorem joinAll_take (l0 l1 : List S102) (k : Nat) (h : k < l1.length) : joinAll l0 (l1.take (k + 1)) = joinOne (joinAll l0 (l1.take k)) (rd_T102 l1 (k : Int)) := by
  unfold joinAll
  rw [rd_take _ _ h, List.foldl_append]
  rfl
theorem joinAll_facts (l0 l1 : List S102) (h : (codes l0).Nodup) : (codes (joinAll l0 l1)).Nodup ∧ tot (joinAll l0 l1) = tot l0 + tot l1 ∧ (joinAll l0 l1).length ≤ l0.length + l1.length := by
  unfold joinAll
  induction l1 generalizing l0 with
  | nil => exact ⟨h, by simp [tot], by simp⟩
  | cons a r ih =>
    obtain ⟨h1, h2, h3⟩ := ih (joinOne l0 a) (joinOne_codes _ _ h)
    refine ⟨h1, ?_, ?_⟩
    · rw [List.foldl_cons, h2, tot_joinOne]; simp [tot]; omega
    · have := length_joinOne l0 a
      rw [List.foldl_cons, List.length_cons]; omega
theorem tot_take (l : List S102) (k : Nat) : tot (l.take k) ≤ tot l := by
  have := tot_append (l.take k) (l.drop k)
  rw [List.take_append_drop] at this
  omega
theorem row_upd {W : World} {base : Nat} {ok : Nat → Prop} {g n cap : Nat} {out : List S102} (h : Kd.R k102 102 W base ok (.slice (some ⟨g, 0, none⟩) n cap) out) (i : Nat) (hi : i < n) (d : ByteArray) :
    Kd.R k102 102 (W.setCell ⟨g, i * 2 + 1, none⟩ (.string d)) base ok (.slice (some ⟨g, 0, none⟩) n cap) (out.set i ⟨(out.getD i z102).f0, d⟩) ∧ W.grownBy (W.setCell ⟨g, i * 2 + 1, none⟩ (.string d)) (some g) := by
  obtain ⟨ce, hcl, hMM, hcc, hfr⟩ := Kd.R_elem h z102 (i : Int) (by omega) (by omega)
  obtain rfl := k102_openM hMM
  exact Kd.R_seg h (i : Int) (by omega) (by omega) (seg := [.string d]) (j := 1) hcl hcc (show 1 + 1 ≤ 2 by omega) (x' := ⟨(out.getD i z102).f0, d⟩) (okp := fun _ => False) (k102_mkM _ _ _ ⟨(out.getD i z102).f0, d⟩) (fun _ hk => hk.elim)
theorem MapOf.mono {P : Program} {k e : TypeId} {w : World} {b n m : Nat} {g : Lit → Option Lit} (h : MapOf P k e w b n g) (hm : n ≤ m) : MapOf P k e w b m g := by
  obtain ⟨D, h1, h2⟩ := h
  exact ⟨D, h1.mono hm, h2⟩
theorem grown_box {wr w2 : World} {cs : Array Value} {t b : Nat} (hg : (wr.alloc (.cells cs t)).grownBy w2 (some b)) (hb : b < wr.heap.size) : w2.heap[wr.heap.size]? = some (.cells cs t (0, 0)) :=
  (hg.block wr.heap.size (by simp) (by simp; omega)).trans (heap_alloc_new _ _)
theorem box2 {w2 : World} {b t : Nat} {u v : Value} (h : w2.heap[b]? = some (.cells #[u, v] t (0, 0))) : w2.cell? ⟨b, 0, none⟩ = some u ∧ w2.cell? ⟨b, 1, none⟩ = some v :=
  ⟨by simp [World.cell?, h], by simp [World.cell?, h]⟩
theorem kb102 (w w1 : World) (A : Option Addr) (n : Nat) (l : List S102) (h : Kd.C k102 w A n l) (hb : Below w.heap.size w w1) : Kd.C k102 w1 A n l := Kd.C_below h hb
set_option maxHeartbeats 1000000 in
set_option maxRecDepth 100000 in
theorem opts_Join.calls (A0 : Option Addr) (c0 : Nat) (l0 : List S102) (A1 : Option Addr) (c1 : Nat) (l1 : List S102) (r : List S102) (w : World) (hr0 : Kd.C k102 w A0 l0.length l0) (hc0 : l0.length ≤ c0) (hr1 : Kd.C k102 w A1 l1.length l1) (hc1 : l1.length ≤ c1) (h : opts_Join.f l0 l1 = some r) :
    Calls Try.prog 84 #[.slice A0 l0.length c0, .slice A1 l1.length c1] w fun e w' => ∃ v0_ : Value, e = .returned (v0_) ∧ Kd.R k102 102 w' w.heap.size (fun _ => True) v0_ r ∧ Below w.heap.size w w' := by
  unfold opts_Join.f at h
  by_cases hF : JoinFit l0 l1
  · rw [if_pos hF] at h
    injection h with h
    subst h
    obtain ⟨hnd, hall, htot, hln⟩ := hF
    have HND := Lib.hid hnd
    have HALL := Lib.hid hall
    have HR0 := Lib.hid hr0
    have HR1 := Lib.hid hr1
    clear hnd hall hr0 hr1
    have hmm := @run_makeMap Try.prog
    go_enter Try.func84, Try.ntmps84
    go_wp2_with (first | (at_builtin; refine Kd.R_append_rows k102 (w0 := w) w.heap.size rfl _ (.tmp 14) 22 102 (.agg #[(.int .i64 0), (.string ⟨#[]⟩)]) 24 rfl Try.underlying22 info102 rfl (by decide) (by omega) (.slice none 0 0) [] l0 _ _ _ (fun k => k ≠ w.heap.size) (fun _ => False) rfl rfl (Kd.R_nil _ _ _ _ _) (Kd.C_alloc HR0.out _) (fun _ _ h => h) (fun _ h => h.elim) (fun k hk => by simp at hk; omega) (below_alloc (Below.refl _ _) _) (below_alloc (Below.refl _ _) _).size (by simp; omega) ?_; intro v1 w1 ho1 hb1 hg1 _; rw [List.nil_append] at ho1; obtain ⟨Ao, co, rfl⟩ := Kd.R_slice ho1))
    clear hmm
    have HM0 : MapOf Try.prog 3 3 w1 w.heap.size 0 (atOf []) := by
      rw [atOf_nil]
      exact (MapOf.made Try.prog 3 3 w).kept hg1 (by simp [Value.ownBlock])
    go_loopw [18] (fun i wr => ∃ k : Nat, k ≤ l0.length ∧ i = .int .i64 k ∧ Aside0 (Kd.R k102 102 wr w.heap.size (fun k => k ≠ w.heap.size) (.slice Ao l0.length co) l0) ∧ Aside0 (MapOf Try.prog 3 3 wr w.heap.size k (atOf (l0.take k))) ∧ Aside0 (Below w.heap.size w wr)) (fun i _ => l0.length - (intOf i).toNat)
    case atStart => exact ⟨0, Nat.zero_le _, rfl, ⟨ho1⟩, ⟨HM0⟩, ⟨hb1⟩⟩
    case round =>
      obtain ⟨k, hk, rfl, hO, hM, hB⟩ := hrel
      by_cases hlt : k < l0.length
      · have hrk := (Kd.R_reads' hO.out).2.2
        obtain ⟨ad, rfl, hx0, hx1⟩ := at_T102 hrk (k : Int) (by omega) (by omega)
        clear hrk
        rw [Int.toNat_natCast] at hx0 hx1
        have hdr := rd_drop l0 k hlt
        have hmem : rd_T102 l0 (k : Int) ∈ l0 := List.mem_of_mem_drop (i := k) (by rw [hdr]; exact List.mem_cons_self)
        have hcd := HALL.out _ (List.mem_append_left l1 hmem)
        have hni : (rd_T102 l0 (k : Int)).f0 ∉ codes (l0.take k) := by
          intro hin
          have h1 := HND.out
          have h2 : codes l0 = codes (l0.take k) ++ codes (l0.drop k) := by unfold codes; rw [← List.map_append, List.take_append_drop]
          rw [h2, List.nodup_append] at h1
          exact h1.2.2 _ hin _ (by rw [hdr]; simp [codes]) rfl
        have hput := atOf_put (l0.take k) _ hni
        rw [← rd_take _ _ hlt, List.length_take_of_le (by omega)] at hput
        have HP := Lib.hid hput
        clear hput hni hmem hdr
        generalize hxe : rd_T102 l0 (k : Int) = x at hx0 hx1 hcd HP
        clear hxe
        obtain ⟨hc1, hc2⟩ := hcd
        go_wp2_with (first | (at_mapUpdate; refine wpList_mapPut (hM.out.alloc _) rfl _ _ _ 188 rfl law3 Try.underlying188 rfl (by unfold maxLen; omega) _ _ _ (.int .i64 (k : Int)) rfl rfl (keyOf_int_mk Try.underlying3 (WalkArith.wf_i64 (by omega))) (plainElem_int Try.underlying3 (WalkArith.wf_i64 (by omega))) ?_; intro w2 hM2 hg2))
        go_roundw
        case rel => exact ⟨k + 1, by omega, by go_num, ⟨Kd.R_grown (Kd.R_alloc hO.out _) hg2 (fun j hj e => hj (by injection e))⟩, ⟨by rw [← HP.out]; exact hM2⟩, ⟨pw_below_grown (below_alloc hB.out _) _ (below_alloc hB.out _).size hg2 (fun j hj => by cases hj; exact Nat.le_refl _)⟩⟩
        case measure => simp [intOf]; omega
      · obtain rfl : k = l0.length := by omega
        go_wp2
        go_loopw [6, 30] (fun v6 i wr => ∃ (k : Nat) (A : Option Addr) (c : Nat), k ≤ l1.length ∧ i = .int .i64 k ∧ v6 = .slice A (joinAll l0 (l1.take k)).length c ∧ Aside0 (Kd.R k102 102 wr w.heap.size (fun k => k ≠ w.heap.size) (.slice A (joinAll l0 (l1.take k)).length c) (joinAll l0 (l1.take k))) ∧ Aside0 (MapOf Try.prog 3 3 wr w.heap.size (l0.length + k) (atOf (joinAll l0 (l1.take k)))) ∧ Aside0 (Below w.heap.size w wr)) (fun _ i _ => l1.length - (intOf i).toNat)
        case atStart => exact ⟨0, _, _, Nat.zero_le _, rfl, rfl, hO, ⟨by have := hM.out; rwa [List.take_of_length_le (Nat.le_refl _)] at this⟩, hB⟩
        case round =>
          clear hO hM hB
          obtain ⟨k, A, c, hk, rfl, rfl, hO, hM, hB⟩ := hrel
          by_cases hlt1 : k < l1.length
          · obtain ⟨ad, rfl, hx0, hx1⟩ := at_T102 (Kd.C_below HR1.out hB.out) (k : Int) (by omega) (by omega)
            rw [Int.toNat_natCast] at hx0 hx1
            have hmem : rd_T102 l1 (k : Int) ∈ l1 := List.mem_of_mem_drop (i := k) (by rw [rd_drop l1 k hlt1]; exact List.mem_cons_self)
            have hcd := HALL.out _ (List.mem_append_right l0 hmem)
            have hjt := joinAll_take l0 l1 k hlt1
            obtain ⟨hf1, hf2, hf3⟩ := joinAll_facts l0 (l1.take k) HND.out
            have htk := tot_take l1 (k + 1)
            rw [rd_take _ _ hlt1, tot_append] at htk
            rw [List.length_take_of_le (by omega)] at hf3
            generalize hxe : rd_T102 l1 (k : Int) = x at hx0 hx1 hcd hjt htk
            have htx : tot [x] = x.f1.size := by simp [tot]
            clear hxe hmem
            obtain ⟨hc1, hc2⟩ := hcd
            have HJ := Lib.hid hjt
            clear hjt
            generalize joinAll l0 (l1.take k) = out at hO hM hf1 hf2 hf3 HJ
            have hkey : keyOf Try.prog 3 (.int .i64 x.f0) = some (.int .i64 x.f0) := keyOf_int_mk Try.underlying3 (WalkArith.wf_i64 (by omega))
            have hL : ∀ o, (Instr.lookup 188 (.map (some w.heap.size)) (.int .i64 x.f0) true).run Try.prog (wr.alloc o) = _ := fun o => (hM.out.alloc o).look_ok_int law3 Try.underlying188 Try.underlying3 (zero3 _) hkey
            have HK := Lib.hid hkey
            clear hkey
            have HF := Lib.hid hf1
            have HT := Lib.hid hf2
            clear hf1 hf2
            cases hi : idxOf x.f0 out with
            | some i =>
              have hL' : ∀ o, (Instr.lookup 188 (.map (some w.heap.size)) (.int .i64 x.f0) true).run Try.prog (wr.alloc o) = .ok (.tuple #[.int .i64 (i : Int), .bool true]) (wr.alloc o) := by
                intro o; rw [hL o]; simp [atOf, hi]
              clear hL
              have HI := Lib.hid hi
              clear hi
              obtain ⟨hil, hic⟩ := idxOf_lt HI.out
              have HC := Lib.hid hic
              clear hic
              obtain ⟨g, cp, eo, gb, gl, cells, hgc⟩ := Kd.R_form hO.out (by omega)
              have HGC := Lib.hid hgc
              clear hgc
              injection eo with ea eb ec
              subst ea
              subst ec
              clear eb
              obtain ⟨ce, hcl, hMM, hcc, hfr⟩ := Kd.R_elem hO.out z102 (i : Int) (by omega) (by omega)
              obtain rfl := k102_openM hMM
              have hy1 : wr.cell? ⟨g, i * 2 + 1, none⟩ = some (.string (out.getD i z102).f1) := hcc 1 _ rfl
              have hf1 : wr.frozen? ⟨g, i * 2 + 1, none⟩ = false := hfr 1
              have hsz : (out.getD i z102).f1.size + x.f1.size ≤ 9223372036854775807 := by
                have h1 := getD_tot out i
                have h2 := HT.out
                have h3 := tot_take l1 k
                omega
              have HCC := Lib.hid hcc
              clear hcc hfr hMM hcl
              generalize hd : (out.getD i z102).f1 = d at hy1 hsz
              have HD := Lib.hid hd
              clear hd
              have hgne : g ≠ w.heap.size := hO.out.1 g (by simp [Value.ownBlock])
              have HNE := Lib.hid hgne
              clear hgne
              go_wp2
              go_region
              go_wp2
              have he : joinOne out x = out.set i ⟨(out.getD i z102).f0, d ++ x.f1⟩ := by
                unfold joinOne
                rw [HI.out, HC.out]
                simp only
                rw [HD.out]
              have hup := (row_upd hO.out i hil (d ++ x.f1)).1
              go_roundw
              case rel => exact ⟨k + 1, some ⟨g, 0, none⟩, c, by omega, by go_num, by rw [HJ.out, he, List.length_set], ⟨by rw [HJ.out, he, List.length_set]; exact Kd.R_drew (Kd.R_alloc hup _)⟩, ⟨by rw [HJ.out, he, atOf_codes (codes_set _ _ _ hil)]; exact (((hM.out.setCell HNE.out.symm _).alloc _).drewN 1).mono (by omega)⟩, ⟨below_drew (below_alloc' (hB.out.setCell gb _) (by have := hB.out.size; simpa [World.setCell] using this) _)⟩⟩
              case measure => simp [intOf]; omega
            | none =>
              have hL' : ∀ o, (Instr.lookup 188 (.map (some w.heap.size)) (.int .i64 x.f0) true).run Try.prog (wr.alloc o) = .ok (.tuple #[.int .i64 0, .bool false]) (wr.alloc o) := by
                intro o; rw [hL o]; simp [atOf, hi]
              clear hL
              have HI := Lib.hid hi
              clear hi
              go_wp2_with (first | (at_mapUpdate; refine wpList_mapPut (hM.out.alloc _) rfl _ _ _ 188 rfl law3 Try.underlying188 rfl ?_ _ _ _ (.int .i64 (out.length : Int)) rfl rfl HK.out ?_ ?_; (go_must (unfold maxLen; omega)); (go_must (exact plainElem_int Try.underlying3 (WalkArith.wf_i64 (by omega)))); intro w2 hM2 hg2; obtain ⟨hz0, hz1⟩ := box2 (grown_box hg2 hM.out.lt)) | (at_builtin; refine Kd.R_append k102 (w0 := w) w.heap.size rfl (.tmp 57) (.tmp 59) 22 102 (.agg #[(.int .i64 0), (.string ⟨#[]⟩)]) 24 rfl Try.underlying22 info102 rfl (by decide) (by omega) (.slice A out.length c) out x [.int .i64 x.f0, .string x.f1] (fun k => k ≠ w.heap.size) (fun _ => False) rfl rfl (k102_mkM _ _ _ x) (fun _ hk => hk.elim) (fun k hk e => by have h1 := hM2.lt; omega) (Kd.R_grown (Kd.R_alloc hO.out _) hg2 (fun j hj e => hj (by injection e))) (pw_below_grown (below_alloc hB.out _) _ (below_alloc hB.out _).size hg2 (fun j hj => by cases hj; exact Nat.le_refl _)) (pw_below_grown (below_alloc hB.out _) _ (below_alloc hB.out _).size hg2 (fun j hj => by cases hj; exact Nat.le_refl _)).size (by omega) ?_; intro v3 w3 ho3 hb3 hg3 hat3))
              have he : joinOne out x = out ++ [x] := by
                unfold joinOne
                rw [HI.out]
              obtain ⟨A3, c3, rfl⟩ := Kd.R_slice ho3
              go_roundw
              case rel => exact ⟨k + 1, A3, c3, by omega, by go_num, by rw [HJ.out, he], ⟨by rw [HJ.out, he]; exact ho3⟩, ⟨by rw [HJ.out, he, ← atOf_put out x (idxOf_none.1 HI.out)]; exact hM2.kept hg3 (fun e => hO.out.1 _ e.symm rfl)⟩, ⟨hb3⟩⟩
              case measure => simp [intOf]; omega
          · obtain rfl : k = l1.length := by omega
            go_wp2
            go_ret
            rw [List.take_of_length_le (Nat.le_refl _)] at hO ⊢
            exact ⟨_, rfl, Kd.R_mono hO.out (fun _ _ => trivial), hB.out⟩
  · rw [if_neg hF] at h; exact absurd h (by simp)
end Go.Proofs.Ytjiojpconkhdmaa.Fs

import Derived.Test.YtjiojpconkhdmaaRows
import Derived.Test.YtjiojpconkhdmaaCM1
import Derived.Lib.SmallJoins
import Derived.Deep.Slices
import Derived.Deep.Fields
import Derived.ChangeSame
namespace Go.Proofs.Ytjiojpconkhdmaa.Fs
open Go.RowKit Go.Joins Go.ChangeShapes Go.WideShapes Go.Deep Go.Proofs.YtjiojpconkhdmaaW.PrintWords Go.Proofs.YtjiojpconkhdmaaW.PrintLast Go.Proofs.YtjiojpconkhdmaaW.PrintMore
set_option linter.unusedVariables false
set_option linter.unusedSimpArgs false
set_option maxRecDepth 100000
section
variable {H : Type} {enc : TypeId × Value → H} {P : Program} {w : World} {base : Nat} {spare : Nat → Bool} {held : Bool}
theorem open_slice_fields {t e : TypeId} {fs : Array Field} {fuel : Nat} {cs : List Value} {x : DataW H × List MemPlace} (ht : P.underlying t = some (.slice e)) (he : P.underlying e = some (.struct fs))
    (hone : oneCellFields P fs = true) (hC : P.cellsOf e = fs.size) (h : DataW.trod enc P w base spare held fuel t cs = some x) :
    (cs = [.slice none 0 0] ∧ x = (.nil, [])) ∨
    ∃ (a : Addr) (len cap m : Nat) (D : Nat → DataW H) (Pl : Nat → List MemPlace), cs = [.slice (some a) len cap] ∧ base ≤ a.block ∧ len ≤ cap ∧ cap ≤ maxLen ∧ m = (if spare a.block then cap else len) ∧
      x = (.slice ((List.range len).map D) ((List.range (m - len)).map fun j => D (len + j)), MemPlace.row a (m * fs.size) ++ (List.range m).flatMap Pl) ∧
      ∀ i, i < m → ∃ (ys : List (DataW H × List MemPlace)) (n : Nat), D i = .agg (ys.map (·.1)) ∧ Pl i = ys.flatMap (·.2) ∧ ys.length = fs.size ∧
        ∀ (j : Nat) (f : Field), fs[j]? = some f → ∃ (v : Value) (y : DataW H × List MemPlace), w.cell? (a.add (i * fs.size + j)) = some v ∧ ys[j]? = some y ∧ DataW.trod enc P w base spare held n f.type [v] = some y := by
  rcases open_slice ht h with h0 | ⟨a, len, cap, m, n, D, Pl, hcs, hb, hl, hm, hmm, hx, hi⟩
  · exact .inl h0
  · refine .inr ⟨a, len, cap, m, D, Pl, hcs, hb, hl, hm, hmm, by rw [hC] at hx; exact hx, fun i him => ?_⟩
    obtain ⟨cs', hc, ht'⟩ := hi i him
    rw [hC] at hc
    obtain ⟨ys, n', hn', hy, hlen, hyl, hf⟩ := DataW.trod_struct he ht'
    obtain ⟨_, hcl, hat⟩ := World.cells?_some hc
    simp only [Prod.mk.injEq] at hy
    refine ⟨ys, n', hy.1, hy.2, hyl, fun j f hj => ?_⟩
    obtain ⟨ho, hk⟩ := hone_of hone j f hj
    have hjl : j < fs.size := (Array.getElem?_eq_some_iff.1 hj).1
    have hcell := hat j hjl
    have hv : cs'[j]? = some (cs'[j]'(by omega)) := List.getElem?_eq_getElem (by omega)
    have h1 := hf j f hj
    rw [ho, hk] at h1
    have hone' : (cs'.drop j).take 1 = [cs'[j]'(by omega)] := by
      rw [List.drop_eq_getElem_cons (by omega)]
      rfl
    rw [hone'] at h1
    have hys : ys[j]? = some (ys[j]'(by omega)) := List.getElem?_eq_getElem (by omega)
    refine ⟨_, _, ?_, hys, h1.trans hys⟩
    rw [← Go.Deep.add_add, hcell, hv]
theorem open_agg12 {H : Type} {enc : TypeId × Value → H} {P : Program} {w : World} {base : Nat} {spare : Nat → Bool} {held : Bool} {r : Reach} {b0 : Nat} {t : TypeId} {f0 f1 f2 f3 f4 f5 f6 f7 f8 f9 f10 f11 : Field} {v : Value} {d : DataW H} {p : List MemPlace} (hs : P.underlying t = some (.struct #[f0, f1, f2, f3, f4, f5, f6, f7, f8, f9, f10, f11])) (hone : oneCellFields P #[f0, f1, f2, f3, f4, f5, f6, f7, f8, f9, f10, f11] = true) (hC : P.cellsOf t = 12)
    (hv : Value.okWide P w r b0 t v) (h : DataW.Trod enc P w base spare held t v d p) :
    ∃ (v0 v1 v2 v3 v4 v5 v6 v7 v8 v9 v10 v11 : Value) (y0 y1 y2 y3 y4 y5 y6 y7 y8 y9 y10 y11 : DataW H × List MemPlace) (n : Nat), v = .agg #[v0, v1, v2, v3, v4, v5, v6, v7, v8, v9, v10, v11] ∧ d = .agg [y0.1, y1.1, y2.1, y3.1, y4.1, y5.1, y6.1, y7.1, y8.1, y9.1, y10.1, y11.1] ∧ DataW.trod enc P w base spare held n f0.type [v0] = some y0 ∧ DataW.trod enc P w base spare held n f1.type [v1] = some y1 ∧ DataW.trod enc P w base spare held n f2.type [v2] = some y2 ∧ DataW.trod enc P w base spare held n f3.type [v3] = some y3 ∧ DataW.trod enc P w base spare held n f4.type [v4] = some y4 ∧ DataW.trod enc P w base spare held n f5.type [v5] = some y5 ∧ DataW.trod enc P w base spare held n f6.type [v6] = some y6 ∧ DataW.trod enc P w base spare held n f7.type [v7] = some y7 ∧ DataW.trod enc P w base spare held n f8.type [v8] = some y8 ∧ DataW.trod enc P w base spare held n f9.type [v9] = some y9 ∧ DataW.trod enc P w base spare held n f10.type [v10] = some y10 ∧ DataW.trod enc P w base spare held n f11.type [v11] = some y11 := by
  obtain ⟨cs, rfl, hsz⟩ := okWide_struct hs hv
  obtain ⟨l⟩ := cs
  match l, hsz.trans hC with
  | [c0, c1, c2, c3, c4, c5, c6, c7, c8, c9, c10, c11], _ =>
    obtain ⟨fuel, hf⟩ := h
    obtain ⟨xs, n, _, hx, _, hlen, hg⟩ := DataW.trod_struct hs hf
    obtain ⟨o0, k0⟩ := hone_of hone 0 f0 rfl
    obtain ⟨o1, k1⟩ := hone_of hone 1 f1 rfl
    obtain ⟨o2, k2⟩ := hone_of hone 2 f2 rfl
    obtain ⟨o3, k3⟩ := hone_of hone 3 f3 rfl
    obtain ⟨o4, k4⟩ := hone_of hone 4 f4 rfl
    obtain ⟨o5, k5⟩ := hone_of hone 5 f5 rfl
    obtain ⟨o6, k6⟩ := hone_of hone 6 f6 rfl
    obtain ⟨o7, k7⟩ := hone_of hone 7 f7 rfl
    obtain ⟨o8, k8⟩ := hone_of hone 8 f8 rfl
    obtain ⟨o9, k9⟩ := hone_of hone 9 f9 rfl
    obtain ⟨o10, k10⟩ := hone_of hone 10 f10 rfl
    obtain ⟨o11, k11⟩ := hone_of hone 11 f11 rfl
    match xs, hlen with
    | [y0, y1, y2, y3, y4, y5, y6, y7, y8, y9, y10, y11], _ =>
      simp only [Prod.mk.injEq] at hx
      exact ⟨c0, c1, c2, c3, c4, c5, c6, c7, c8, c9, c10, c11, y0, y1, y2, y3, y4, y5, y6, y7, y8, y9, y10, y11, n, rfl, by simpa using hx.1, by simpa [Value.cells, o0, k0] using hg 0 f0 rfl, by simpa [Value.cells, o1, k1] using hg 1 f1 rfl, by simpa [Value.cells, o2, k2] using hg 2 f2 rfl, by simpa [Value.cells, o3, k3] using hg 3 f3 rfl, by simpa [Value.cells, o4, k4] using hg 4 f4 rfl, by simpa [Value.cells, o5, k5] using hg 5 f5 rfl, by simpa [Value.cells, o6, k6] using hg 6 f6 rfl, by simpa [Value.cells, o7, k7] using hg 7 f7 rfl, by simpa [Value.cells, o8, k8] using hg 8 f8 rfl, by simpa [Value.cells, o9, k9] using hg 9 f9 rfl, by simpa [Value.cells, o10, k10] using hg 10 f10 rfl, by simpa [Value.cells, o11, k11] using hg 11 f11 rfl⟩
end
theorem cells102 : Try.prog.cellsOf 102 = 2 := by kernel_rfl
theorem cells24 : Try.prog.cellsOf 24 = 12 := by kernel_rfl
/-- A slice of options that came in. -/
theorem open_options {H : Type} {enc : TypeId × Value → H} {w : World} {base : Nat} {spare : Nat → Bool} {held : Bool} {fuel : Nat} {v : Value} {x : DataW H × List MemPlace} (h : DataW.trod enc Try.prog w base spare held fuel 22 [v] = some x) :
    ∃ (A : Option Addr) (c : Nat) (l : List S102), v = .slice A l.length c ∧ l.length ≤ c ∧ Kd.C k102 w A l.length l ∧ l.length ≤ Rows.uptoBulk x.1 := by
  rcases open_slice_fields Try.underlying22 Try.underlying102 (by kernel_rfl) cells102 h with ⟨hcs, rfl⟩ | ⟨a, len, cap, m, D, Pl, hcs, _, hl, hm, hmm, rfl, hi⟩
  · have hv : v = .slice none 0 0 := by simpa using hcs
    subst hv
    exact ⟨none, 0, [], rfl, Nat.le_refl _, Kd.C_nil _ _, Nat.zero_le _⟩
  · have hv : v = .slice (some a) len cap := by simpa using hcs
    subst hv
    have hlm : len ≤ m := by rw [hmm]; split <;> omega
    have hx : ∀ i, i < len → ∃ x : S102, w.cell? (a.add (i * 2)) = some (.int .i64 x.f0) ∧ w.cell? (a.add (i * 2 + 1)) = some (.string x.f1) := by
      intro i hil
      obtain ⟨ys, n, _, _, _, hf⟩ := hi i (by omega)
      obtain ⟨v0, y0, hc0, _, ht0⟩ := hf 0 _ rfl
      obtain ⟨v1, y1, hc1, _, ht1⟩ := hf 1 _ rfl
      obtain ⟨z, e0, _, _⟩ := DataW.trod_int Try.underlying3 ht0
      obtain ⟨q, e1, _, _⟩ := DataW.trod_string Try.underlying9 ht1
      have e0' : v0 = .int .i64 z := by simpa using e0
      have e1' : v1 = .string q := by simpa using e1
      subst e0'
      subst e1'
      exact ⟨⟨z, q⟩, hc0, hc1⟩
    have hmax : maxLen = 9223372036854775807 := rfl
    let F : Nat → S102 := fun i => if hil : i < len then (hx i hil).choose else z102
    have hF : ∀ i, i < len → w.cell? (a.add (i * 2)) = some (.int .i64 (F i).f0) ∧ w.cell? (a.add (i * 2 + 1)) = some (.string (F i).f1) := by
      intro i hil
      have := (hx i hil).choose_spec
      simp only [F, dif_pos hil]
      exact this
    refine ⟨some a, cap, (List.range len).map F, by simp, by simpa using hl, ?_, ?_⟩
    · refine ⟨rfl, by simp; omega, fun _ => ⟨a, rfl, fun j p hj => ?_⟩⟩
      obtain ⟨hjl, hp⟩ := List.getElem?_eq_some_iff.1 hj
      have hjn : j < len := by simpa using hjl
      have hp' : F j = p := by simpa using hp
      subst hp'
      obtain ⟨h0, h1⟩ := hF j hjn
      refine ⟨[.int .i64 (F j).f0, .string (F j).f1], rfl, k102_mk w (F j), fun i u hu => ?_⟩
      match i, hu with
      | 0, hu =>
        have : Value.int .i64 (F j).f0 = u := by simpa using hu
        subst this
        exact h0
      | 1, hu =>
        have : Value.string (F j).f1 = u := by simpa using hu
        subst this
        exact h1
      | i + 2, hu => simp at hu
    · have h1 : ∀ (q : List (DataW H)), q.length ≤ Rows.uptoBulkAll q := by
        intro q
        induction q with
        | nil => simp
        | cons z r ih =>
          have hz : 1 ≤ Rows.uptoBulk z := by
            cases z with
            | lit l => cases l <;> simp [Rows.uptoBulk]
            | _ => simp [Rows.uptoBulk]
          simp only [Rows.uptoBulkAll, List.length_cons]
          omega
      have h2 := h1 ((List.range len).map D)
      simp only [List.length_map, List.length_range] at h2 ⊢
      simp only [Rows.uptoBulk]
      omega
/-- A packet that came in. -/
theorem open_packet {H : Type} {enc : TypeId × Value → H} {w : World} {base : Nat} {spare : Nat → Bool} {held : Bool} {r : Reach} {b0 : Nat} {v : Value} {d : DataW H} {p : List MemPlace} (hv : Value.okWide Try.prog w r b0 24 v) (h : DataW.Trod enc Try.prog w base spare held 24 v d p) :
    ∃ (a0 a1 a2 a3 a4 a5 a6 a7 a8 a9 : Int) (a10 : ByteArray) (A : Option Addr) (c : Nat) (l : List S102), v = .agg #[.int .i64 a0, .int .i64 a1, .int .i64 a2, .int .i64 a3, .int .i64 a4, .int .i64 a5, .int .i64 a6, .int .i64 a7, .int .i64 a8, .int .i64 a9, .string a10, .slice A l.length c] ∧ l.length ≤ c ∧ Kd.C k102 w A l.length l ∧ l.length ≤ Rows.uptoBulk d := by
  obtain ⟨v0, v1, v2, v3, v4, v5, v6, v7, v8, v9, v10, v11, y0, y1, y2, y3, y4, y5, y6, y7, y8, y9, y10, y11, n, rfl, rfl, h0, h1, h2, h3, h4, h5, h6, h7, h8, h9, h10, h11⟩ := open_agg12 Try.underlying24 (by kernel_rfl) cells24 hv h
  obtain ⟨a0, e0, _, _⟩ := DataW.trod_int Try.underlying3 h0
  have e0' : v0 = .int .i64 a0 := by simpa using e0
  subst e0'
  obtain ⟨a1, e1, _, _⟩ := DataW.trod_int Try.underlying3 h1
  have e1' : v1 = .int .i64 a1 := by simpa using e1
  subst e1'
  obtain ⟨a2, e2, _, _⟩ := DataW.trod_int Try.underlying3 h2
  have e2' : v2 = .int .i64 a2 := by simpa using e2
  subst e2'
  obtain ⟨a3, e3, _, _⟩ := DataW.trod_int Try.underlying3 h3
  have e3' : v3 = .int .i64 a3 := by simpa using e3
  subst e3'
  obtain ⟨a4, e4, _, _⟩ := DataW.trod_int Try.underlying3 h4
  have e4' : v4 = .int .i64 a4 := by simpa using e4
  subst e4'
  obtain ⟨a5, e5, _, _⟩ := DataW.trod_int Try.underlying3 h5
  have e5' : v5 = .int .i64 a5 := by simpa using e5
  subst e5'
  obtain ⟨a6, e6, _, _⟩ := DataW.trod_int Try.underlying3 h6
  have e6' : v6 = .int .i64 a6 := by simpa using e6
  subst e6'
  obtain ⟨a7, e7, _, _⟩ := DataW.trod_int Try.underlying3 h7
  have e7' : v7 = .int .i64 a7 := by simpa using e7
  subst e7'
  obtain ⟨a8, e8, _, _⟩ := DataW.trod_int Try.underlying3 h8
  have e8' : v8 = .int .i64 a8 := by simpa using e8
  subst e8'
  obtain ⟨a9, e9, _, _⟩ := DataW.trod_int Try.underlying3 h9
  have e9' : v9 = .int .i64 a9 := by simpa using e9
  subst e9'
  obtain ⟨a10, e10, _, _⟩ := DataW.trod_string Try.underlying9 h10
  have e10' : v10 = .string a10 := by simpa using e10
  subst e10'
  obtain ⟨A, c, l, rfl, hl, hC, hb⟩ := open_options h11
  refine ⟨a0, a1, a2, a3, a4, a5, a6, a7, a8, a9, a10, A, c, l, rfl, hl, hC, Nat.le_trans hb ?_⟩
  simp only [Rows.uptoBulk, Rows.uptoBulkAll]
  omega
end Go.Proofs.Ytjiojpconkhdmaa.Fs

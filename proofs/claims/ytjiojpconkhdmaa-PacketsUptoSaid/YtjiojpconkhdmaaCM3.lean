import Derived.Test.YtjiojpconkhdmaaCM1
import Derived.Lib.Hide
import Derived.Outline
import Derived.Maps.OwnSet
namespace Go.Proofs.Ytjiojpconkhdmaa.Fs
open Go.RowKit Go.Proofs.YtjiojpconkhdmaaW.PrintWords Go.Proofs.YtjiojpconkhdmaaW.PrintLast Go.Proofs.YtjiojpconkhdmaaW.PrintMore
set_option linter.unusedVariables false
set_option linter.unusedSimpArgs false
-- GIVEN 117 making
/-- The number of some bytes, the highest one first, from x on. -/
def numFrom (x : Int) : List Int → Int
  | [] => x
  | b :: r => numFrom (Go.bits .or .i64 (wrap64 (x * 256)) (wrap64 b)) r
theorem numFrom_snoc (x : Int) (l : List Int) (b : Int) : numFrom x (l ++ [b]) = Go.bits .or .i64 (wrap64 (numFrom x l * 256)) (wrap64 b) := by
  induction l generalizing x with
  | nil => rfl
  | cons a r ih => exact ih _
def be_Number.f (a0 : ByteArray) : Option Int := if a0.size ≤ 9223372036854775807 then some (numFrom 0 (bytesOf a0)) else none
theorem take_bytes (s : ByteArray) (i : Nat) (h : i < s.size) : (bytesOf s).take (i + 1) = (bytesOf s).take i ++ [bt s i] := by
  have hl : i < (bytesOf s).length := by rw [bytesOf_length]; exact h
  rw [List.take_succ_eq_append_getElem hl]
  congr 2
  have := rd_bytesOf s i
  unfold rd at this
  rw [← this, List.getD_eq_getElem?_getD, Int.toNat_natCast, List.getElem?_eq_getElem hl]
  rfl
set_option maxHeartbeats 400000 in
theorem be_Number.calls (a0 : ByteArray) (r : Int) (w : World) (h : be_Number.f a0 = some r) :
    Calls Try.prog 117 #[.string a0] w fun e w' => e = .returned (.int .i64 r) ∧ Below w.heap.size w w' := by
  unfold be_Number.f at h
  by_cases hs : a0.size ≤ 9223372036854775807
  · rw [if_pos hs] at h
    injection h with h
    subst h
    have kb := fun W => print_bytes (P := Try.prog) 9 43 5 Try.underlying9 Try.underlying43 Try.underlying5 a0 W
    have hb := Lib.hid (bytes_below (Below.refl w.heap.size w) (Nat.le_refl _) 5 a0)
    have hr := Lib.hid (bytes_reads w 5 a0 hs)
    go_enter Try.func117, Try.ntmps117
    go_wp2
    clear kb
    generalize Lib.bytesWorld w 5 a0 = w1 at hb hr ⊢
    generalize grownCap w a0.size 0 5 = c1
    generalize (some ⟨w.heap.size, 0, none⟩ : Option Addr) = A1 at hr ⊢
    go_loop [3, 9] (fun x i => ∃ k : Nat, k ≤ a0.size ∧ i = .int .i64 k ∧ x = .int .i64 (numFrom 0 ((bytesOf a0).take k))) (fun _ i => a0.size - (intOf i).toNat)
    case atStart => exact ⟨0, Nat.zero_le _, rfl, rfl⟩
    case round =>
      obtain ⟨k, hk, rfl, rfl⟩ := hrel
      by_cases hlt : k < a0.size
      · obtain ⟨ad, rfl, hc⟩ := hr.out.at_ k (by omega) (by omega)
        rw [Int.toNat_natCast, rd_bytesOf] at hc
        go_wp2
        go_round
        case rel => exact ⟨k + 1, by omega, by go_num, by rw [take_bytes _ _ hlt, numFrom_snoc]⟩
        case measure => simp [intOf]; omega
      · obtain rfl : k = a0.size := by omega
        go_wp2
        go_ret
        rw [List.take_of_length_le (by rw [bytesOf_length]; exact Nat.le_refl _)]
        exact ⟨rfl, hb.out⟩
  · rw [if_neg hs] at h; exact absurd h (by simp)
end Go.Proofs.Ytjiojpconkhdmaa.Fs

namespace Go.Proofs.Ytjiojpconkhdmaa.Fs
open Go.RowKit Go.Maps Go.Proofs.YtjiojpconkhdmaaW.PrintWords
set_option linter.unusedVariables false

theorem below_alloc' {B : Nat} {w W : World} (h : Below B w W) (hB : B ≤ W.heap.size) (o : Obj) : Below B w (W.alloc o) := h.alloc hB o
/-- Block b of w is a map of at most n entries that holds at the key kl what g tells. -/
def MapOf (P : Program) (k e : TypeId) (w : World) (b n : Nat) (g : Lit → Option Lit) : Prop :=
  ∃ D : DataW Unit, w.ownsMap P k (plainElem P e) b n D ∧ ∀ kl, (∀ zd, D.atKey kl zd = ((g kl).elim zd DataW.lit)) ∧ has D kl = (g kl).isSome

section
variable {P : Program} {k e : TypeId} {w w1 : World} {b n : Nat} {g : Lit → Option Lit}

theorem MapOf.made (P : Program) (k e : TypeId) (w : World) : MapOf P k e (w.alloc (.map #[] 0)) w.heap.size 0 (fun _ => none) :=
  ⟨.map [], World.ownsMap_made _ _ _ _, fun _ => ⟨fun _ => rfl, rfl⟩⟩
theorem MapOf.kept (h : MapOf P k e w b n g) {row : Option Nat} (hg : w.grownBy w1 row) (hne : some b ≠ row) : MapOf P k e w1 b n g := by
  obtain ⟨D, h1, h2⟩ := h
  exact ⟨D, h1.kept hg hne, h2⟩
theorem MapOf.below (h : MapOf P k e w b n g) (hb : Below w.heap.size w w1) : MapOf P k e w1 b n g := h.kept (grown_of_below hb none) (by simp)
theorem MapOf.alloc (h : MapOf P k e w b n g) (o : Obj) : MapOf P k e (w.alloc o) b n g := by
  obtain ⟨D, h1, h2⟩ := h
  exact ⟨D, h1.alloc o, h2⟩
theorem MapOf.drewN (h : MapOf P k e w b n g) (m : Nat) : MapOf P k e (w.drewN m) b n g := h
theorem MapOf.setCell (h : MapOf P k e w b n g) {a : Addr} (ha : b ≠ a.block) (u : Value) : MapOf P k e (w.setCell a u) b n g := by
  obtain ⟨D, h1, h2⟩ := h
  exact ⟨D, h1.setCell ha u, h2⟩
theorem MapOf.lt (h : MapOf P k e w b n g) : b < w.heap.size := by
  obtain ⟨D, h1, _⟩ := h
  exact h1.lt

theorem plainElem_bool_inv {H : Type} {P : Program} {e : TypeId} (he : P.underlying e = some .bool) {v : Value} {z : DataW H × List MemPlace} (h : plainElem P e v = some z) : ∃ a, v = .bool a ∧ z = (.lit (.bool a), []) := by
  unfold plainElem at h
  rw [he] at h
  cases v <;> simp at h
  exact ⟨_, rfl, h.symm⟩

/-- 'm[k]' where the elements are bools. -/
theorem MapOf.look_bool {t : TypeId} (h : MapOf P k e w b n g) (K : Keyed P k) (ht : P.underlying t = some (.map k e)) (he : P.underlying e = some .bool) (hz : (zeroValue e).run P w = .ok (.bool false) w)
    {key : Value} {kl : Lit} (hkey : keyOf P k key = some kl) : (Instr.lookup t (.map (some b)) key false).run P w = .ok (.bool (match g kl with | some (.bool c) => c | _ => false)) w := by
  obtain ⟨D, h1, h2⟩ := h
  obtain ⟨v, ps, hrun, hv⟩ := h1.lookup K ht hz (plainElem_bool he false) hkey
  obtain ⟨c, rfl, hc⟩ := plainElem_bool_inv he hv
  rw [hrun, (h2 kl).1] at *
  cases hg : g kl with
  | none => rw [hg] at hc; simp at hc; simp [hc.1]
  | some l => rw [hg] at hc; simp at hc; simp [hc.1]

/-- 'm[k]' with 'ok', where the elements are ints. -/
theorem MapOf.look_ok_int {t : TypeId} {q : IntKind} (h : MapOf P k e w b n g) (K : Keyed P k) (ht : P.underlying t = some (.map k e)) (he : P.underlying e = some (.int q)) (hz : (zeroValue e).run P w = .ok (.int q 0) w)
    {key : Value} {kl : Lit} (hkey : keyOf P k key = some kl) : (Instr.lookup t (.map (some b)) key true).run P w = .ok (.tuple #[.int q (match g kl with | some (.int _ c) => c | _ => 0), .bool (g kl).isSome]) w := by
  obtain ⟨D, h1, h2⟩ := h
  have hw0 : (Lit.int q 0).wf = true := by cases q <;> decide
  obtain ⟨v, ps, hrun, hv⟩ := h1.look_ok K ht hz (plainElem_int he hw0) hkey
  obtain ⟨c, rfl, hc, _⟩ := plainElem_int_inv he hv
  rw [hrun, (h2 kl).2]
  rw [(h2 kl).1] at hc
  cases hg : g kl with
  | none => rw [hg] at hc; simp at hc; simp [hc.1]
  | some l => rw [hg] at hc; simp at hc; simp [hc.1]

open Classical in
noncomputable def putg (g : Lit → Option Lit) (kl l : Lit) : Lit → Option Lit := fun x => if x = kl then some l else g x

theorem MapOf.put {D : DataW Unit} (K : Keyed P k) {kl : Lit} {l : Lit} (hk : WideAt.IsKeyLit kl) (h1 : w1.ownsMap P k (plainElem P e) b (n + 1) (D.put kl (.lit l))) (hD : IsMap D)
    (h2 : ∀ kl, (∀ zd, D.atKey kl zd = ((g kl).elim zd DataW.lit)) ∧ has D kl = (g kl).isSome) : MapOf P k e w1 b (n + 1) (putg g kl l) := by
  refine ⟨_, h1, fun x => ?_⟩
  unfold putg
  by_cases hx : x = kl
  · subst hx
    rw [if_pos rfl]
    exact ⟨fun zd => by rw [atKey_put_same hD hk]; rfl, by rw [has_put_same hD hk]; rfl⟩
  · rw [if_neg hx]
    exact ⟨fun zd => by rw [atKey_put_other hx]; exact (h2 x).1 zd, by rw [has_put_other hx]; exact (h2 x).2⟩

/-- 'm[k] = v', at the operation. -/
theorem wpList_mapPut {ops : Array Oper} {rest : List Oper} {o : Oper} {a : Act} {Q : Exit → Act → World → Prop} (hM : MapOf P k e w b n g)
    (hg : o.guard = none) (m x v : Operand) (t : TypeId) (hop : o.op = Op.mapUpdate t m x v) (K : Keyed P k) (ht : P.underlying t = some (.map k e))
    (hm : a.eval m = .map (some b)) (hn : n < maxLen) (key val : Value) (kl l : Lit) (hx : a.eval x = key) (hv : a.eval v = val) (hkey : keyOf P k key = some kl)
    (hval : plainElem (H := Unit) P e val = some (.lit l, []))
    (hK : ∀ w', MapOf P k e w' b (n + 1) (putg g kl l) → w.grownBy w' (some b) → wpList P ops Q rest (a.put o.dst undef) w') :
    wpList P ops Q (o :: rest) a w := by
  obtain ⟨D, h1, h2⟩ := hM
  exact wpList_mapUpdate_own w hg m x v t hop k e K ht _ b n D hm h1 hn key val kl hx hv hkey _ [] hval (fun w' hw' hgr => hK w' (MapOf.put K (K.key hkey) hw' h1.isMap h2) hgr)
end
end Go.Proofs.Ytjiojpconkhdmaa.Fs

namespace Go.Proofs.Ytjiojpconkhdmaa.Fs
open Go.RowKit Go.Maps Go.Proofs.YtjiojpconkhdmaaW.PrintWords Go.Proofs.YtjiojpconkhdmaaW.PrintLast Go.Proofs.YtjiojpconkhdmaaW.PrintMore
set_option linter.unusedVariables false
set_option linter.unusedSimpArgs false
-- GIVEN 52 making
/-- Are these options fine, behind such codes? -/
def optsOk : List Int → List S102 → Bool
  | _, [] => true
  | seen, o :: r => if o.f0 ≤ 0 ∨ 255 ≤ o.f0 ∨ o.f0 ∈ seen ∨ 512 < o.f1.size then false else optsOk (o.f0 :: seen) r
def opts_May.f (l0 : List S102) : Option Bool := some (optsOk [] l0 && decide (l0.length ≤ 32))
def codes (l : List S102) : List Int := l.map (·.f0)
theorem rd_drop (l : List S102) (k : Nat) (h : k < l.length) : l.drop k = rd_T102 l (k : Int) :: l.drop (k + 1) := by
  rw [List.drop_eq_getElem_cons h]
  simp [rd_T102, List.getD_eq_getElem?_getD, h]
theorem rd_take (l : List S102) (k : Nat) (h : k < l.length) : l.take (k + 1) = l.take k ++ [rd_T102 l (k : Int)] := by
  rw [List.take_succ_eq_append_getElem h]
  simp [rd_T102, List.getD_eq_getElem?_getD, h]
theorem law3 : Keyed Try.prog 3 := int_keyed Try.underlying3
theorem zero4 (w : World) : (zeroValue 4).run Try.prog w = .ok (.bool false) w := by kernel_rfl
theorem zero3 (w : World) : (zeroValue 3).run Try.prog w = .ok (.int .i64 0) w := by kernel_rfl
open Classical in
/-- The set of the codes that were seen. -/
noncomputable def seenOf (l : List Int) : Lit → Option Lit
  | .int .i64 c => if c ∈ l then some (.bool true) else none
  | _ => none
theorem seenOf_nil : seenOf [] = fun _ => none := by
  funext x
  unfold seenOf
  split <;> simp
theorem seenOf_put (l : List Int) (c : Int) : putg (seenOf l) (.int .i64 c) (.bool true) = seenOf (l ++ [c]) := by
  funext x
  unfold putg
  by_cases hx : x = .int .i64 c
  · rw [if_pos hx]; subst hx; simp [seenOf]
  · rw [if_neg hx]
    unfold seenOf
    split
    · rename_i c'
      have : c' ≠ c := fun e => hx (by rw [e])
      simp [this]
    · rfl
def Fine (l0 : List S102) (k : Nat) : Prop := optsOk [] l0 = optsOk (codes (l0.take k)).reverse (l0.drop k)
theorem fine0 (l0 : List S102) : Fine l0 0 := rfl
theorem fine_step {l0 : List S102} {k : Nat} (hF : Fine l0 k) (h : k < l0.length) (h1 : 0 < (rd_T102 l0 (k : Int)).f0) (h2 : (rd_T102 l0 (k : Int)).f0 < 255) (h3 : (rd_T102 l0 (k : Int)).f0 ∉ codes (l0.take k)) (h4 : (rd_T102 l0 (k : Int)).f1.size ≤ 512) : Fine l0 (k + 1) := by
  unfold Fine at *
  rw [hF, rd_drop _ _ h, rd_take _ _ h, optsOk, if_neg]
  · simp [codes]
  · simp only [List.mem_reverse]; rintro (h | h | h | h)
    · omega
    · omega
    · exact h3 h
    · omega
theorem fine_bad {l0 : List S102} {k : Nat} (hF : Fine l0 k) (h : k < l0.length) (hb : (rd_T102 l0 (k : Int)).f0 ≤ 0 ∨ 255 ≤ (rd_T102 l0 (k : Int)).f0 ∨ (rd_T102 l0 (k : Int)).f0 ∈ codes (l0.take k) ∨ 512 < (rd_T102 l0 (k : Int)).f1.size) : optsOk [] l0 = false := by
  unfold Fine at hF
  rw [hF, rd_drop _ _ h, optsOk, if_pos]
  simpa only [List.mem_reverse] using hb
theorem fine_end {l0 : List S102} (hF : Fine l0 l0.length) : optsOk [] l0 = true := by
  unfold Fine at hF
  rw [hF]; simp [optsOk]
set_option maxHeartbeats 1000000 in
set_option maxRecDepth 100000 in
theorem opts_May.calls (A0 : Option Addr) (c0 : Nat) (l0 : List S102) (r : Bool) (w : World) (hr0 : Kd.C k102 w A0 l0.length l0) (hc0 : l0.length ≤ c0) (h : opts_May.f l0 = some r) :
    Calls Try.prog 52 #[.slice A0 l0.length c0] w fun e w' => e = .returned (.bool r) ∧ Below w.heap.size w w' := by
  injection h with h
  subst h
  have hlen : l0.length ≤ 9223372036854775807 := hr0.2.1
  have hr := Lib.hid hr0
  clear hr0
  have hmm := @run_makeMap Try.prog
  go_enter Try.func52, Try.ntmps52
  go_wp2
  clear hmm
  go_loopw [9] (fun i wr => ∃ k : Nat, k ≤ l0.length ∧ i = .int .i64 k ∧ MapOf Try.prog 3 4 wr w.heap.size k (seenOf (codes (l0.take k))) ∧ Below w.heap.size w wr ∧ Aside0 (Fine l0 k)) (fun i _ => l0.length - (intOf i).toNat)
  case atStart => exact ⟨0, Nat.zero_le _, rfl, by rw [show codes (l0.take 0) = [] from rfl, seenOf_nil]; exact MapOf.made _ _ _ _, below_alloc (Below.refl _ _) _, ⟨fine0 _⟩⟩
  case round =>
    obtain ⟨k, hk, rfl, hM, hB, hF⟩ := hrel
    have HM := Lib.hid hM
    have HB := Lib.hid hB
    clear hM hB
    by_cases hlt : k < l0.length
    · have hrk := hr.out
      obtain ⟨ad, rfl, hx0, hx1⟩ := at_T102 hrk (k : Int) (by omega) (by omega)
      have hy0 := pw_cell_below HB.out hx0
      have hy1 := pw_cell_below HB.out hx1
      clear hx0 hx1 hrk
      rw [Int.toNat_natCast] at hy0 hy1
      generalize hxe : rd_T102 l0 (k : Int) = x at hy0 hy1
      have HX := Lib.hid hxe
      clear hxe
      have hbad : x.f0 ≤ 0 ∨ 255 ≤ x.f0 ∨ x.f0 ∈ codes (l0.take k) ∨ 512 < x.f1.size → optsOk [] l0 = false := fun hb => fine_bad hF.out hlt (by rw [HX.out]; exact hb)
      have HBAD := Lib.hid hbad
      clear hbad
      by_cases h1 : 0 < x.f0
      · by_cases h2 : x.f0 < 255
        · have hkey : keyOf Try.prog 3 (.int .i64 x.f0) = some (.int .i64 x.f0) := keyOf_int_mk Try.underlying3 (WalkArith.wf_i64 (by omega))
          have hL : ∀ o, (Instr.lookup 153 (.map (some w.heap.size)) (.int .i64 x.f0) false).run Try.prog (wr.alloc o) = .ok (.bool (match seenOf (codes (l0.take k)) (.int .i64 x.f0) with | some (.bool c) => c | _ => false)) (wr.alloc o) :=
            fun o => (HM.out.alloc o).look_bool law3 Try.underlying153 Try.underlying4 (zero4 _) hkey
          have HK := Lib.hid hkey
          clear hkey
          by_cases h3 : x.f0 ∈ codes (l0.take k)
          · have hL' : ∀ o, (Instr.lookup 153 (.map (some w.heap.size)) (.int .i64 x.f0) false).run Try.prog (wr.alloc o) = .ok (.bool true) (wr.alloc o) := by
              intro o; rw [hL o]; simp [seenOf, h3]
            clear hL
            have H3 := Lib.hid h3
            clear h3
            go_wp2
            go_ret
            exact ⟨by rw [HBAD.out (.inr (.inr (.inl H3.out)))]; rfl, below_alloc HB.out _⟩
          · have hL' : ∀ o, (Instr.lookup 153 (.map (some w.heap.size)) (.int .i64 x.f0) false).run Try.prog (wr.alloc o) = .ok (.bool false) (wr.alloc o) := by
              intro o; rw [hL o]; simp [seenOf, h3]
            clear hL
            have H3 := Lib.hid h3
            clear h3
            by_cases h4 : x.f1.size ≤ 512
            · go_wp2_with (first | (at_mapUpdate; refine wpList_mapPut (HM.out.alloc _) rfl _ _ _ 153 rfl law3 Try.underlying153 rfl (by unfold maxLen; omega) _ _ _ (.bool true) rfl rfl HK.out (plainElem_bool Try.underlying4 true) ?_; intro w1 hM1 hg1))
              have hT : codes (l0.take (k + 1)) = codes (l0.take k) ++ [x.f0] := by rw [rd_take _ _ hlt, HX.out]; simp [codes]
              have hst : Fine l0 (k + 1) := fine_step hF.out hlt (by rw [HX.out]; exact h1) (by rw [HX.out]; exact h2) (by rw [HX.out]; exact H3.out) (by rw [HX.out]; exact h4)
              go_roundw
              case rel => exact ⟨k + 1, by omega, by go_num, by rw [hT, ← seenOf_put]; exact hM1, pw_below_grown (below_alloc HB.out _) _ (below_alloc HB.out _).size hg1 (fun j hj => by cases hj; exact Nat.le_refl _), ⟨hst⟩⟩
              case measure => simp [intOf]; omega
            · go_wp2
              go_ret
              exact ⟨by rw [HBAD.out (.inr (.inr (.inr (by omega))))]; rfl, below_alloc HB.out _⟩
        · go_wp2
          go_ret
          exact ⟨by rw [HBAD.out (.inr (.inl (by omega)))]; rfl, below_alloc HB.out _⟩
      · go_wp2
        go_ret
        exact ⟨by rw [HBAD.out (.inl (by omega))]; rfl, below_alloc HB.out _⟩
    · obtain rfl : k = l0.length := by omega
      go_wp2
      go_ret
      exact ⟨by rw [fine_end hF.out, Bool.true_and]; exact congrArg (fun b => Ending.returned (.bool b)) (decide_eq_decide.2 (by omega)), HB.out⟩
end Go.Proofs.Ytjiojpconkhdmaa.Fs

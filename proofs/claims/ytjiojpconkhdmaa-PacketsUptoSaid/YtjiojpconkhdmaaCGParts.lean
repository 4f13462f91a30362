import Derived.Test.YtjiojpconkhdmaaCM5
import Derived.Test.YtjiojpconkhdmaaCGDelete
import Derived.Deep.DeepCutAuto
namespace Go.Proofs.Ytjiojpconkhdmaa.Fs
open Go.RowKit Go.Maps Go.Proofs.YtjiojpconkhdmaaW.PrintWords Go.Proofs.YtjiojpconkhdmaaW.PrintLast Go.Proofs.YtjiojpconkhdmaaW.PrintMore
set_option linter.unusedVariables false
set_option linter.unusedSimpArgs false
def whereP (all : List S102) : Int := if (findP 52 all).2 = true ∧ (findP 52 all).1.size = 1 ∧ bt (findP 52 all).1 0 ≤ 3 then bt (findP 52 all).1 0 else 0
def stepP (wh : Int) (l : List UInt8) (bit : Int) (fr en : Nat) (p : List S102 × Int) : List S102 × Int :=
  if Go.bits .and .i64 wh bit ≠ 0 ∧ p.2 = 0 then (joinAll p.1 (getP ((l.take en).drop fr)).1, (getP ((l.take en).drop fr)).2) else p
/-- The options of all parts of a packet. -/
def partsP (l : List UInt8) : List S102 × Bool :=
  let p0 := getP (l.drop 240)
  let wh := whereP p0.1
  let p2 := stepP wh l 2 44 108 (stepP wh l 1 108 236 p0)
  let a := if wh ≠ 0 then noOv p2.1 else p2.1
  (a, decide (p2.2 = 0) && optsMay a)
structure Good (l : List S102) (T : Nat) : Prop where
  nodup : (codes l).Nodup
  range : ∀ o ∈ l, 0 ≤ o.f0 ∧ o.f0 ≤ 255
  tot : tot l ≤ T
  len : l.length ≤ T
theorem joinOne_range {l : List S102} {x : S102} (h : ∀ o ∈ l, 0 ≤ o.f0 ∧ o.f0 ≤ 255) (hx : 0 ≤ x.f0 ∧ x.f0 ≤ 255) : ∀ o ∈ joinOne l x, 0 ≤ o.f0 ∧ o.f0 ≤ 255 := by
  unfold joinOne
  split
  · intro o ho
    rcases List.mem_or_eq_of_mem_set ho with h1 | rfl
    · exact h o h1
    · exact hx
  · intro o ho
    rcases List.mem_append.1 ho with h1 | h1
    · exact h o h1
    · rw [List.mem_singleton.1 h1]; exact hx
theorem joinAll_range {l : List S102} (xs : List S102) (h : ∀ o ∈ l, 0 ≤ o.f0 ∧ o.f0 ≤ 255) (hx : ∀ o ∈ xs, 0 ≤ o.f0 ∧ o.f0 ≤ 255) : ∀ o ∈ joinAll l xs, 0 ≤ o.f0 ∧ o.f0 ≤ 255 := by
  induction xs generalizing l with
  | nil => exact h
  | cons a r ih => exact ih (joinOne_range h (hx a (by simp))) (fun o ho => hx o (by simp [ho]))
theorem Good.join {l xs : List S102} {T U : Nat} (h : Good l T) (hx : Good xs U) : Good (joinAll l xs) (T + U) := by
  obtain ⟨h1, h2, h3⟩ := joinAll_facts l xs h.nodup
  exact ⟨h1, joinAll_range xs h.range hx.range, by have := h.tot; have := hx.tot; omega, by have := h.len; have := hx.len; omega⟩
theorem Good.nil (T : Nat) : Good [] T := ⟨by simp [codes], by simp, by simp [Fs.tot], by simp⟩
theorem getP_good (l : List UInt8) : Good (getP l).1 l.length := by
  unfold getP
  split
  · obtain ⟨h1, h2, h3⟩ := joinAll_facts [] (pcs l).1 (by simp [codes])
    obtain ⟨h4, h5⟩ := pcs_tot l.length l (Nat.le_refl _)
    exact ⟨h1, joinAll_range _ (by simp) (pcs_range l.length l (Nat.le_refl _)), by rw [h2]; exact (by simpa [Fs.tot] using h4), Nat.le_trans h3 (by simpa using h5)⟩
  · exact Good.nil _
theorem Good.mono {l : List S102} {T U : Nat} (h : Good l T) (hu : T ≤ U) : Good l U := ⟨h.nodup, h.range, Nat.le_trans h.tot hu, Nat.le_trans h.len hu⟩
theorem Good.fit {l xs : List S102} {T U : Nat} (h : Good l T) (hx : Good xs U) (ht : T + U ≤ 1099511627776) : opts_Join.f l xs = some (joinAll l xs) := by
  unfold opts_Join.f
  have hr : ∀ o ∈ l ++ xs, 0 ≤ o.f0 ∧ o.f0 ≤ 255 := by
    intro o ho
    rcases List.mem_append.1 ho with h1 | h1
    · exact h.range o h1
    · exact hx.range o h1
  rw [if_pos ⟨h.nodup, hr, by have := h.tot; have := hx.tot; omega, by have := h.len; have := hx.len; omega⟩]
theorem stepP_good {wh bit : Int} {l : List UInt8} {fr en : Nat} {p : List S102 × Int} {T : Nat} (h : Good p.1 T) : Good (stepP wh l bit fr en p).1 (T + (en - fr)) := by
  unfold stepP
  split
  · exact h.join ((getP_good _).mono (by rw [List.length_drop, List.length_take]; omega))
  · exact h.mono (by omega)
theorem byte_wrap2 (b : Nat) (h : b < 256) : wrap64 (b : Int) = (b : Int) := by unfold wrap64; omega
def stageP (wh : Int) (l : List UInt8) (p0 : List S102 × Int) : Nat → List S102 × Int
  | 0 => p0
  | 1 => stepP wh l 1 108 236 p0
  | _ => stepP wh l 2 44 108 (stepP wh l 1 108 236 p0)
def rowC : Array Value := #[.int .i64 1, .int .i64 108, .int .i64 236, .int .i64 2, .int .i64 44, .int .i64 108]
theorem box6 {w : World} {b t : Nat} {v0 v1 v2 v3 v4 v5 : Value} (h : w.heap[b]? = some (.cells #[v0, v1, v2, v3, v4, v5] t (0, 0))) :
    w.cell? ⟨b, 0, none⟩ = some v0 ∧ w.cell? ⟨b, 1, none⟩ = some v1 ∧ w.cell? ⟨b, 2, none⟩ = some v2 ∧ w.cell? ⟨b, 3, none⟩ = some v3 ∧ w.cell? ⟨b, 4, none⟩ = some v4 ∧ w.cell? ⟨b, 5, none⟩ = some v5 := by
  refine ⟨?_, ?_, ?_, ?_, ?_, ?_⟩ <;> simp [World.cell?, h]
set_option maxHeartbeats 1000000 in
set_option maxRecDepth 100000 in
theorem parts_calls (s : ByteArray) (l : List UInt8) (hs : s.data.toList = l) (h240 : 240 ≤ l.length) (hN : l.length ≤ 1000000000000) (w : World) :
    Calls Try.prog 43 #[.string s] w fun e w' => ∃ v0_ : Value, e = .returned (.tuple #[v0_, .bool (partsP l).2]) ∧ Kd.R k102 102 w' w.heap.size (fun _ => True) v0_ (partsP l).1 ∧ Below w.heap.size w w' := by
  have hss : s.size = l.length := size_of hs
  obtain ⟨m, hm⟩ : ∃ m, m = l.drop 240 := ⟨_, rfl⟩
  have hml : m.length + 240 = l.length := by rw [hm, List.length_drop, Nat.sub_add_cancel h240]
  have hem : (s.extract 240 s.size).data.toList = m := by rw [ext_of hs, hss, List.take_of_length_le (Nat.le_refl _), hm]
  have hg0 : opts_Get.f (2 * m.length + 2) (s.extract 240 s.size) = some (getP m) := opts_Get_eq _ m hem _ (Nat.le_refl _) (by omega)
  have hgd0 : Good (getP m).1 l.length := (getP_good m).mono (by omega)
  have hfd : opts_Find.f (l.length + 1) (getP m).1 52 = some (findP 52 (getP m).1) := opts_Find_eq 52 _ (by have := hgd0.len; omega) _ (by have := hgd0.len; omega)
  obtain ⟨⟨ra, rb⟩, hpp⟩ : ∃ p, p = partsP l := ⟨_, rfl⟩
  rw [← hpp]
  unfold partsP at hpp
  rw [← hm] at hpp
  obtain ⟨p, e0⟩ : ∃ p, p = getP m := ⟨_, rfl⟩
  rw [← e0] at hg0 hgd0 hfd hpp
  have HPP := Lib.hid hpp
  clear hpp
  obtain ⟨all, er⟩ := p
  have HF := Lib.hid hfd
  have HG := Lib.hid hg0
  have HGD := Lib.hid hgd0
  have HE := Lib.hid e0
  clear hfd hg0 hgd0 e0
  generalize hft : findP 52 all = ft at HF
  obtain ⟨told, is⟩ := ft
  have HFT := Lib.hid hft
  clear hft
  have hsz : 240 ≤ s.size := by rw [hss]; exact h240
  have hs63 : s.size ≤ 9223372036854775807 := by rw [hss]; omega
  have HS := Lib.hid hs
  have H240 := Lib.hid h240
  have HNN := Lib.hid hN
  clear hss hml hem hm hs h240 hN
  go_enter Try.func43, Try.ntmps43
  go_upto_region 4 with (first | (go_at_call 82; refine (opts_Get.calls _ _ all er _ HG.out).mono ?_; rintro e w1 ⟨v1, rfl, ho1, hb1⟩; obtain ⟨A1, c1, rfl⟩ := Kd.R_slice ho1; have hr1 := Kd.R_reads' ho1) | (go_at_call 83; refine (opts_Find.calls _ A1 c1 all 52 told is _ hr1.2.2 hr1.2.1 HF.out).mono ?_; rintro e w2 ⟨rfl, hb2⟩))
  have HO1 := Lib.hid (Kd.R_below ho1 hb2)
  have HB2 := Lib.hid (hb1.trans (hb2.mono hb1.size))
  clear ho1 hb1 hb2 hr1
  go_cut [8, 34] (fun v8 v34 wc => v34 = .bool (decide (is = true ∧ told.size = 1 ∧ bt told 0 ≤ 3)) ∧ wc = w2)
  case first =>
    go_wp2
    all_goals go_meet
    case rel =>
      rename_i hi hz
      refine ⟨congrArg Value.bool (decide_eq_decide.2 ?_), rfl⟩
      have hc1 : 0 < told.size := by omega
      have hb := bt_at told 0 hc1
      have hlt := (told[(0 : Int).toNat]'hc1).toNat_lt
      have hw := byte_wrap2 _ hlt
      have e : ((told[0]'hc1).toNat : Int) = bt told 0 := hb
      have hw' : wrap64 ((told[0]'hc1).toNat : Int) = bt told 0 := hw.trans e
      rw [hw']
      exact ⟨fun h => ⟨hi, by omega, h⟩, fun h => h.2.2⟩
    case rel =>
      refine ⟨congrArg Value.bool ?_, rfl⟩
      rename_i hi hz
      exact (decide_eq_false (fun h => hz (by rw [h.2.1]; rfl))).symm
    case rel =>
      refine ⟨congrArg Value.bool ?_, rfl⟩
      rename_i hi
      exact (decide_eq_false (fun h => by simp_all)).symm
  case rest =>
    obtain ⟨rfl, rfl⟩ := hcut
    go_upto_if 34 with fail
    go_cut [6] (fun v6 wx => v6 = .int .i64 (whereP all) ∧ wx = wc)
    case first =>
      have hwp : whereP all = if is = true ∧ told.size = 1 ∧ bt told 0 ≤ 3 then bt told 0 else 0 := by unfold whereP; rw [HFT.out]
      by_cases hc : is = true ∧ told.size = 1 ∧ bt told 0 ≤ 3
      · rw [decide_eq_true hc]
        have hc1 : 0 < told.size := by omega
        go_wp2
        go_meet
        case rel =>
          refine ⟨?_, rfl⟩
          rw [hwp, if_pos hc, ← bt_at told 0 hc1]
          have := (told[(0 : Int).toNat]'hc1).toNat_lt
          exact congrArg (Value.int .i64) (byte_wrap2 _ this)
      · rw [decide_eq_false hc]
        go_wp2
        go_meet
        case rel => exact ⟨by rw [hwp, if_neg hc], rfl⟩
    case rest =>
      obtain ⟨rfl, rfl⟩ := hcut
      go_wp2
      generalize hwh : whereP all = wh
      have HWH := Lib.hid hwh
      clear hwh
      obtain ⟨B, hB⟩ : ∃ B, B = wc.heap.size := ⟨_, rfl⟩
      go_loopw [4, 5, 42] (fun v4 v5 i wr => ∃ (k : Nat) (xs : List S102) (er2 : Int) (A : Option Addr) (c : Nat), k ≤ 2 ∧ i = .int .i64 k ∧ v4 = .slice A xs.length c ∧ v5 = .int .i64 er2 ∧ Aside0 (stageP wh l (all, er) k = (xs, er2)) ∧ Aside0 (Kd.R k102 102 wr w.heap.size (fun _ => True) (.slice A xs.length c) xs) ∧ Aside0 (Below w.heap.size w wr) ∧ Aside0 (wr.heap[wc.heap.size]? = some (.cells rowC 145 (0, 0))) ∧ Aside0 (Good xs (l.length + 200 * k))) (fun _ _ i _ => 2 - (intOf i).toNat)
      case atStart => exact ⟨0, all, er, A1, c1, by omega, rfl, rfl, rfl, ⟨rfl⟩, ⟨Kd.R_alloc HO1.out _⟩, ⟨below_alloc' HB2.out HB2.out.size _⟩, ⟨heap_alloc_new _ _⟩, ⟨HGD.out⟩⟩
      case round =>
        obtain ⟨k, xs, er2, A, c, hk, rfl, rfl, rfl, hst, hR, hBw, hrow, hgd⟩ := hrel
        obtain ⟨q0, q1, q2, q3, q4, q5⟩ := box6 hrow.out
        have hk2 : k = 0 ∨ k = 1 ∨ k = 2 := by omega
        rcases hk2 with rfl | rfl | rfl
        · obtain ⟨⟨ms, me⟩, hme⟩ : ∃ p, p = getP ((l.take 236).drop 108) := ⟨_, rfl⟩
          have hln : ((l.take 236).drop 108).length = 128 := by rw [List.length_drop, List.length_take, Nat.min_eq_left (Nat.le_trans (by decide) H240.out)]
          have hgm : opts_Get.f 258 (s.extract 108 236) = some (ms, me) := (opts_Get_eq _ _ (ext_of HS.out 108 236) _ (by rw [hln]; decide) (by rw [hln]; decide)).trans (by rw [hme])
          have hmg : Good ms 128 := by have := getP_good ((l.take 236).drop 108); rw [hln, ← hme] at this; exact this
          have hj : opts_Join.f xs ms = some (joinAll xs ms) := hgd.out.fit hmg (by have := HNN.out; omega)
          have hsp : stageP wh l (all, er) 1 = if Go.bits .and .i64 wh 1 ≠ 0 ∧ er2 = 0 then (joinAll xs ms, me) else (xs, er2) := by
            have h := hst.out
            unfold stageP stepP
            
            rw [← hme]
            injection h with h1 h2; subst h1; subst h2; rfl
          have HM := Lib.hid hgm
          have HMG := Lib.hid hmg
          have HJ := Lib.hid hj
          have HSP := Lib.hid hsp
          clear hme hln hgm hmg hj hsp
          have hws := hBw.out.size
          have hrl : wc.heap.size < wr.heap.size := (Array.getElem?_eq_some_iff.1 hrow.out).1
          by_cases hg1 : Go.bits .and .i64 wh 1 = 0
          · go_wp2_with fail
            go_roundw
            case rel => exact ⟨1, xs, er2, A, c, by omega, by go_num, rfl, rfl, ⟨by rw [HSP.out, if_neg (fun h => h.1 hg1)]⟩, ⟨Kd.R_alloc hR.out _⟩, ⟨below_alloc' hBw.out hws _⟩, ⟨heap_alloc_old _ _ hrl |>.trans hrow.out⟩, ⟨hgd.out.mono (by omega)⟩⟩
            case measure => simp [intOf]
          · by_cases he : er2 = 0
            · subst he
              go_wp2_with (first | (go_at_call 82; refine (opts_Get.calls _ _ ms me _ HM.out).mono ?_; rintro e w3 ⟨v3, rfl, ho3, hb3⟩; obtain ⟨A3, c3, rfl⟩ := Kd.R_slice ho3; have hr3 := Kd.R_reads' ho3; have hr2 := Kd.R_reads' (Kd.R_below (Kd.R_alloc hR.out _) hb3)))
              refine (opts_Join.calls A c xs A3 c3 ms _ _ hr2.2.2 hr2.2.1 hr3.2.2 hr3.2.1 HJ.out).mono ?_
              rintro e w4 ⟨v4, rfl, ho4, hb4⟩
              obtain ⟨A4, c4, rfl⟩ := Kd.R_slice ho4
              go_wp2
              have hs3 := hb3.size
              simp at hs3
              have hbz : Below w.heap.size w w4 := ((below_alloc' hBw.out hws _).trans (hb3.mono (by simp; omega))).trans (hb4.mono (by omega))
              go_roundw
              case rel => exact ⟨1, joinAll xs ms, me, A4, c4, by omega, by go_num, rfl, rfl, ⟨by rw [HSP.out]; simp [hg1]⟩, ⟨Kd.R_lower ho4 (by omega)⟩, ⟨hbz⟩, ⟨heap_below (heap_below ((heap_alloc_old _ _ hrl).trans hrow.out) hb3) hb4⟩, ⟨(hgd.out.join HMG.out).mono (by omega)⟩⟩
              case measure => simp [intOf]
            · have heb : (er2 == 0) = false := by simp [he]
              go_wp2_with fail
              go_roundw
              case rel => exact ⟨1, xs, er2, A, c, by omega, by go_num, rfl, rfl, ⟨by rw [HSP.out, if_neg (fun h => he h.2)]⟩, ⟨Kd.R_alloc hR.out _⟩, ⟨below_alloc' hBw.out hws _⟩, ⟨heap_alloc_old _ _ hrl |>.trans hrow.out⟩, ⟨hgd.out.mono (by omega)⟩⟩
              case measure => simp [intOf]
        · obtain ⟨⟨ms, me⟩, hme⟩ : ∃ p, p = getP ((l.take 108).drop 44) := ⟨_, rfl⟩
          have hln : ((l.take 108).drop 44).length = 64 := by rw [List.length_drop, List.length_take, Nat.min_eq_left (Nat.le_trans (by decide) H240.out)]
          have hgm : opts_Get.f 130 (s.extract 44 108) = some (ms, me) := (opts_Get_eq _ _ (ext_of HS.out 44 108) _ (by rw [hln]; decide) (by rw [hln]; decide)).trans (by rw [hme])
          have hmg : Good ms 64 := by have := getP_good ((l.take 108).drop 44); rw [hln, ← hme] at this; exact this
          have hj : opts_Join.f xs ms = some (joinAll xs ms) := hgd.out.fit hmg (by have := HNN.out; omega)
          have hsp : stageP wh l (all, er) 2 = if Go.bits .and .i64 wh 2 ≠ 0 ∧ er2 = 0 then (joinAll xs ms, me) else (xs, er2) := by
            have h := hst.out
            show stepP wh l 2 44 108 (stageP wh l (all, er) 1) = _
            rw [h]; unfold stepP
            rw [← hme]
          have HM := Lib.hid hgm
          have HMG := Lib.hid hmg
          have HJ := Lib.hid hj
          have HSP := Lib.hid hsp
          clear hme hln hgm hmg hj hsp
          have hws := hBw.out.size
          have hrl : wc.heap.size < wr.heap.size := (Array.getElem?_eq_some_iff.1 hrow.out).1
          by_cases hg1 : Go.bits .and .i64 wh 2 = 0
          · go_wp2_with fail
            go_roundw
            case rel => exact ⟨2, xs, er2, A, c, by omega, by go_num, rfl, rfl, ⟨by rw [HSP.out, if_neg (fun h => h.1 hg1)]⟩, ⟨Kd.R_alloc hR.out _⟩, ⟨below_alloc' hBw.out hws _⟩, ⟨heap_alloc_old _ _ hrl |>.trans hrow.out⟩, ⟨hgd.out.mono (by omega)⟩⟩
            case measure => simp [intOf]
          · by_cases he : er2 = 0
            · subst he
              go_wp2_with (first | (go_at_call 82; refine (opts_Get.calls _ _ ms me _ HM.out).mono ?_; rintro e w3 ⟨v3, rfl, ho3, hb3⟩; obtain ⟨A3, c3, rfl⟩ := Kd.R_slice ho3; have hr3 := Kd.R_reads' ho3; have hr2 := Kd.R_reads' (Kd.R_below (Kd.R_alloc hR.out _) hb3)))
              refine (opts_Join.calls A c xs A3 c3 ms _ _ hr2.2.2 hr2.2.1 hr3.2.2 hr3.2.1 HJ.out).mono ?_
              rintro e w4 ⟨v4, rfl, ho4, hb4⟩
              obtain ⟨A4, c4, rfl⟩ := Kd.R_slice ho4
              go_wp2
              have hs3 := hb3.size
              simp at hs3
              have hbz : Below w.heap.size w w4 := ((below_alloc' hBw.out hws _).trans (hb3.mono (by simp; omega))).trans (hb4.mono (by omega))
              go_roundw
              case rel => exact ⟨2, joinAll xs ms, me, A4, c4, by omega, by go_num, rfl, rfl, ⟨by rw [HSP.out]; simp [hg1]⟩, ⟨Kd.R_lower ho4 (by omega)⟩, ⟨hbz⟩, ⟨heap_below (heap_below ((heap_alloc_old _ _ hrl).trans hrow.out) hb3) hb4⟩, ⟨(hgd.out.join HMG.out).mono (by omega)⟩⟩
              case measure => simp [intOf]
            · have heb : (er2 == 0) = false := by simp [he]
              go_wp2_with fail
              go_roundw
              case rel => exact ⟨2, xs, er2, A, c, by omega, by go_num, rfl, rfl, ⟨by rw [HSP.out, if_neg (fun h => he h.2)]⟩, ⟨Kd.R_alloc hR.out _⟩, ⟨below_alloc' hBw.out hws _⟩, ⟨heap_alloc_old _ _ hrl |>.trans hrow.out⟩, ⟨hgd.out.mono (by omega)⟩⟩
              case measure => simp [intOf]
        · have hpe : (ra, rb) = (if wh ≠ 0 then noOv xs else xs, decide (er2 = 0) && optsMay (if wh ≠ 0 then noOv xs else xs)) := by
            refine HPP.out.trans ?_
            show (if whereP all ≠ 0 then noOv (stepP (whereP all) l 2 44 108 (stepP (whereP all) l 1 108 236 (all, er))).1 else (stepP (whereP all) l 2 44 108 (stepP (whereP all) l 1 108 236 (all, er))).1, decide ((stepP (whereP all) l 2 44 108 (stepP (whereP all) l 1 108 236 (all, er))).2 = 0) && optsMay (if whereP all ≠ 0 then noOv (stepP (whereP all) l 2 44 108 (stepP (whereP all) l 1 108 236 (all, er))).1 else (stepP (whereP all) l 2 44 108 (stepP (whereP all) l 1 108 236 (all, er))).1)) = _
            have h : stepP wh l 2 44 108 (stepP wh l 1 108 236 (all, er)) = (xs, er2) := hst.out
            rw [HWH.out, h]
          injection hpe with hpa hpb
          have hr0 := Lib.hid (Kd.R_reads' hR.out)
          have hws := hBw.out.size
          by_cases hw0 : wh = 0
          · rw [if_neg (fun h => h hw0)] at hpa hpb
            subst hpa
            by_cases he : er2 = 0
            · rw [decide_eq_true he, Bool.true_and] at hpb
              subst he
              subst hpb
              go_wp2_with (first | (go_at_call 52; refine (opts_May.calls A c ra (optsMay ra) _ hr0.out.2.2 hr0.out.2.1 rfl).mono ?_; rintro e w5 ⟨rfl, hb5⟩))
              all_goals
                go_ret2
                exact ⟨_, rfl, Kd.R_below hR.out hb5, hBw.out.trans (hb5.mono hws)⟩
            · have heb : (er2 == 0) = false := by simp [he]
              rw [decide_eq_false he, Bool.false_and] at hpb
              subst hpb
              go_wp2_with fail
              go_ret2
              exact ⟨_, rfl, hR.out, hBw.out⟩
          · rw [if_pos hw0] at hpa hpb
            subst hpa
            have hwb : (wh != 0) = true := by simp [hw0]
            by_cases he : er2 = 0
            · rw [decide_eq_true he, Bool.true_and] at hpb
              subst he
              subst hpb
              go_wp2_with (first | (go_at_call 85; refine (delete_calls _ _ xs w _ hBw.out hR.out).mono ?_; rintro e w4 ⟨v4, rfl, ho4, hb4⟩; obtain ⟨A4, c4, rfl⟩ := Kd.R_slice ho4; have hr4 := Kd.R_reads' ho4) | (go_at_call 52; refine (opts_May.calls A4 c4 (noOv xs) (optsMay (noOv xs)) _ hr4.2.2 hr4.2.1 rfl).mono ?_; rintro e w5 ⟨rfl, hb5⟩))
              all_goals
                go_ret2
                exact ⟨_, rfl, Kd.R_mono (Kd.R_below ho4 hb5) (fun _ _ => trivial), hb4.trans (hb5.mono hb4.size)⟩
            · have heb : (er2 == 0) = false := by simp [he]
              rw [decide_eq_false he, Bool.false_and] at hpb
              subst hpb
              go_wp2_with (first | (go_at_call 85; refine (delete_calls _ _ xs w _ hBw.out hR.out).mono ?_; rintro e w4 ⟨v4, rfl, ho4, hb4⟩; obtain ⟨A4, c4, rfl⟩ := Kd.R_slice ho4; have hr4 := Kd.R_reads' ho4))
              go_ret2
              exact ⟨_, rfl, Kd.R_mono ho4 (fun _ _ => trivial), hb4⟩
end Go.Proofs.Ytjiojpconkhdmaa.Fs

import Derived.Test.YtjiojpconkhdmaaCM5
import Derived.Test.YtjiojpconkhdmaaCF46
import Derived.Test.YtjiojpconkhdmaaCGRefNum
import Derived.Test.YtjiojpconkhdmaaCGParts
namespace Go.Proofs.Ytjiojpconkhdmaa.Fs
open Go.RowKit Go.Maps Go.Proofs.YtjiojpconkhdmaaW.PrintWords Go.Proofs.YtjiojpconkhdmaaW.PrintLast Go.Proofs.YtjiojpconkhdmaaW.PrintMore
set_option linter.unusedVariables false
set_option linter.unusedSimpArgs false
theorem rjoin_l (c : Int) (d : ByteArray) (l : List S102) (hl : l.length ≤ 1099511627776) (hd : tot l + d.size ≤ 1152921504606846976) : ∀ (n i k : Nat), l.length - i ≤ n → n + 1 ≤ k → i ≤ l.length →
    pinfoldref1_join.l0 k c d l (i : Int) = some (match idxOf c (l.drop i) with | some j => l.set (i + j) ⟨c, (l.getD (i + j) z102).f1 ++ d⟩ | none => l ++ [⟨c, d⟩])
  | 0, i, k, hn, hk, hi => by
    obtain ⟨m, rfl⟩ : ∃ m, k = m + 1 := ⟨k - 1, by omega⟩
    have e : i = l.length := by omega
    rw [pinfoldref1_join.l0, if_neg (by omega), if_pos (by omega), e, List.drop_length]
    rfl
  | n + 1, i, k, hn, hk, hi => by
    obtain ⟨m, rfl⟩ : ∃ m, k = m + 1 := ⟨k - 1, by omega⟩
    by_cases h : i < l.length
    · rw [pinfoldref1_join.l0, if_pos (by omega), if_pos (by omega), rd_drop l i h]
      simp only [idxOf]
      have ht : (rd_T102 l (i : Int)).f1.size ≤ tot l := getD_tot l i
      by_cases hc : (rd_T102 l (i : Int)).f0 = c
      · rw [if_pos hc, if_pos hc, if_pos (by omega)]
        simp [rd_T102]
      · rw [if_neg hc, if_neg hc, next_nat i (by omega), rjoin_l c d l hl hd n (i + 1) m (by omega) (by omega) h]
        cases hx : idxOf c (l.drop (i + 1)) with
        | none => rfl
        | some j => simp [show i + 1 + j = i + (j + 1) by omega]
    · have e : i = l.length := by omega
      rw [pinfoldref1_join.l0, if_neg (by omega), if_pos (by omega), e, List.drop_length]
      rfl
theorem ref_join_eq (c : Int) (d : ByteArray) (l : List S102) (hl : l.length ≤ 1099511627776) (hd : tot l + d.size ≤ 1152921504606846976) (k : Nat) (hk : l.length + 1 ≤ k) : pinfoldref1_join.f k l c d = some (joinOne l ⟨c, d⟩) := by
  have h := rjoin_l c d l hl hd l.length 0 k (by omega) hk (by omega)
  unfold pinfoldref1_join.f
  simp only [Option.bind_some, List.length_nil, Nat.zero_add, List.nil_append]
  rw [if_pos (by omega)]
  refine h.trans ?_
  unfold joinOne
  simp only [List.drop_zero, Nat.zero_add]
  cases idxOf c l <;> rfl
theorem at_arith (a q N : Nat) (hq : q < 256) (hN : N ≤ 1099511627776) (ha : a + 2 ≤ N) : wrap64 (a : Int) = (a : Int) ∧ wrap64 ((a : Int) + 1) = ((a + 1 : Nat) : Int) ∧ wrap64 ((a : Int) + 2) = ((a + 2 : Nat) : Int) ∧ wrap64 (q : Int) = (q : Int) ∧ wrap64 (((a + 2 : Nat) : Int) + (q : Int)) = ((a + 2 + q : Nat) : Int) := by
  unfold wrap64
  refine ⟨by omega, by omega, by omega, by omega, by omega⟩
theorem byte_wrap (b : Nat) (h : b < 256) : wrap64 (b : Int) = (b : Int) := by unfold wrap64; omega
theorem getO_arith {a N m n q t x : Nat} (hk : 3 * (N - a) + x + 4 ≤ m + 2) (ht : t + (N - a) ≤ 1099511627776) (hx : x + (N - a) ≤ 1099511627776) (hq : a + 2 + q ≤ N) (hn : N - a ≤ n + 1) : N - (a + 2 + q) ≤ n ∧ 3 * (N - (a + 2 + q)) + (x + 1) + 4 ≤ m ∧ (t + q) + (N - (a + 2 + q)) ≤ 1099511627776 ∧ (x + 1) + (N - (a + 2 + q)) ≤ 1099511627776 ∧ x ≤ 1099511627776 ∧ t + q ≤ 1152921504606846976 ∧ x + 1 ≤ m := by omega
theorem getO_arith1 {a N m n t x : Nat} (hk : 3 * (N - a) + x + 4 ≤ m + 2) (ht : t + (N - a) ≤ 1099511627776) (hx : x + (N - a) ≤ 1099511627776) (hq : a < N) (hn : N - a ≤ n + 1) : N - (a + 1) ≤ n ∧ 3 * (N - (a + 1)) + x + 4 ≤ m ∧ t + (N - (a + 1)) ≤ 1099511627776 ∧ x + (N - (a + 1)) ≤ 1099511627776 ∧ a + 1 ≤ N := by omega
theorem getO_eq (s : ByteArray) (l : List UInt8) (hs : s.data.toList = l) (hN : l.length ≤ 1099511627776) : ∀ (n a k : Nat) (x4 : List S102), l.length - a ≤ n → a ≤ l.length → 3 * (l.length - a) + x4.length + 4 ≤ k → tot x4 + (l.length - a) ≤ 1099511627776 → x4.length + (l.length - a) ≤ 1099511627776 →
    pinfoldref1_GetOpts.l0 k s x4 (a : Int) = some (if (pcs (l.drop a)).2 = true ∧ optsMay (joinAll x4 (pcs (l.drop a)).1) = true then (joinAll x4 (pcs (l.drop a)).1, 0) else ([], 600)) := by
  have hsz : (s.size : Int) = (l.length : Int) := by rw [size_of hs]
  have hend : ∀ (m : Nat) (x4 : List S102) (a : Nat), pinfoldref1_GetOpts.j1 (m + 1) s x4 (a : Int) false = some (if optsMay x4 = true then (x4, 0) else ([], 600)) := by
    intro m x4 a
    rw [pinfoldref1_GetOpts.j1, if_neg (by simp)]
    simp only [pinfoldref1_OptsMay.f, Option.bind_some]
    change (if optsMay x4 = true then _ else _) = _
    by_cases h : optsMay x4 = true
    · rw [if_pos h, if_pos h]
    · rw [if_neg h, if_neg h]
  intro n
  induction n with
  | zero =>
    intro a k x4 hn ha hk ht hx
    obtain ⟨m, rfl⟩ : ∃ m, k = m + 2 := ⟨k - 2, by omega⟩
    have e : a = l.length := by omega
    subst e
    rw [pinfoldref1_GetOpts.l0, hsz, if_neg (by omega), hend, List.drop_length]
    simp [pcs, joinAll]
  | succ n ih =>
    intro a k x4 hn ha hk ht hx
    obtain ⟨m, rfl⟩ : ∃ m, k = m + 2 := ⟨k - 2, by omega⟩
    by_cases h : a < l.length
    · have hb0 : bt s (a : Int) = ((l[a]'h).toNat : Int) := bt_of hs a h
      have hdr : l.drop a = l[a]'h :: l.drop (a + 1) := List.drop_eq_getElem_cons h
      rw [pinfoldref1_GetOpts.l0, hsz, if_pos (Int.ofNat_lt.2 h), if_pos (Int.natCast_nonneg a), hdr, hb0]
      generalize l[a]'h = b at hb0
      have hbl := b.toNat_lt
      unfold pcs
      by_cases h255 : b = 255
      · subst h255
        rw [show ((((255 : UInt8).toNat : Nat) : Int) != 255) = false from rfl, hend, if_pos rfl]
        simp [joinAll]
      · have hne : b.toNat ≠ 255 := fun e => h255 (UInt8.toNat_inj.1 e)
        rw [show (((b.toNat : Nat) : Int) != 255) = true from by simp; omega, if_neg h255, pinfoldref1_GetOpts.j1, if_pos rfl, if_pos (Int.natCast_nonneg a), hsz, if_pos (Int.ofNat_lt.2 h), hb0]
        obtain ⟨g1, g2, g3, g4, g5⟩ := getO_arith1 hk ht hx h hn
        by_cases h0 : b = 0
        · subst h0
          rw [if_pos (by simp), if_pos rfl, next_nat a (by omega)]
          exact ih (a + 1) m x4 g1 g5 g2 g3 g4
        · have hne0 : b.toNat ≠ 0 := fun e => h0 (UInt8.toNat_inj.1 e)
          rw [if_neg (by omega), if_neg h0]
          by_cases h1 : a + 1 < l.length
          · have hb1 : bt s ((a + 1 : Nat) : Int) = ((l[a + 1]'h1).toNat : Int) := bt_of hs (a + 1) h1
            have hdr1 : l.drop (a + 1) = l[a + 1]'h1 :: l.drop (a + 2) := List.drop_eq_getElem_cons h1
            rw [hdr1]
            have hd1 : ∀ q, (l.drop (a + 2)).drop q = l.drop (a + 2 + q) := fun q => List.drop_drop
            have he1 : ∀ q, s.extract (a + 2) (a + 2 + q) = ⟨((l.drop (a + 2)).take q).toArray⟩ := fun q => mk_of (by rw [ext_of hs, List.drop_take]; congr 1; omega)
            have hln : (l.drop (a + 2)).length = l.length - (a + 2) := List.length_drop
            generalize l[a + 1]'h1 = q at hb1
            have hql := q.toNat_lt
            have hlq := hd1 q.toNat
            have heq := he1 q.toNat
            have hge : ¬ (((a + 1 : Nat) : Int) ≥ (l.length : Int)) := fun h => absurd (Int.ofNat_le.1 h) (Nat.not_le.2 h1)
            obtain ⟨w1, w2, w3, w4, w5⟩ := at_arith a q.toNat l.length hql hN h1
            have wb := byte_wrap b.toNat hbl
            rw [w2, if_neg hge, if_pos (Int.natCast_nonneg _), if_pos (Int.ofNat_lt.2 h1), hb1, w3, w4, w5, wb]
            clear w1 w2 w3 w4 w5 wb hb0 hb1
            simp only
            by_cases hd : (l.drop (a + 2)).length < q.toNat
            · rw [if_pos (Int.ofNat_lt.2 (by rw [hln] at hd; omega)), if_pos hd]
              simp
            · have hfit : a + 2 + q.toNat ≤ l.length := by rw [hln] at hd; omega
              obtain ⟨f1, f2, f3, f4, f5, f6, f7⟩ := getO_arith hk ht hx hfit hn
              rw [if_neg (fun h => absurd (Int.ofNat_lt.1 h) (by omega)), if_neg hd, if_pos (Int.natCast_nonneg _), if_pos (Int.ofNat_le.2 (by omega)), if_pos (Int.ofNat_le.2 hfit), Int.toNat_natCast, Int.toNat_natCast, heq, hlq]
              have hsq : (ByteArray.mk ((l.drop (a + 2)).take q.toNat).toArray).size = q.toNat := by rw [size_mk, List.length_take]; omega
              rw [ref_join_eq (b.toNat : Int) _ x4 f5 (by rw [hsq]; exact f6) m f7, Option.bind_some]
              have hl1 := length_joinOne x4 ⟨(b.toNat : Int), ⟨((l.drop (a + 2)).take q.toNat).toArray⟩⟩
              have ht1 := tot_joinOne x4 ⟨(b.toNat : Int), ⟨((l.drop (a + 2)).take q.toNat).toArray⟩⟩
              rw [hsq] at ht1
              rw [ih (a + 2 + q.toNat) m _ f1 hfit (by omega) (by rw [ht1]; exact f3) (by omega)]
              rfl
          · have e : a + 1 = l.length := by omega
            have hdn : l.drop (a + 1) = [] := by rw [e]; exact List.drop_length
            rw [hdn, next_nat a (by omega), if_pos (by omega)]
            simp
    · have e : a = l.length := by omega
      subst e
      rw [pinfoldref1_GetOpts.l0, hsz, if_neg (by omega), hend, List.drop_length]
      simp [pcs, joinAll]
theorem ref_GetOpts_eq (s : ByteArray) (l : List UInt8) (hs : s.data.toList = l) (hN : l.length ≤ 1099511627776) (k : Nat) (hk : 3 * l.length + 4 ≤ k) : pinfoldref1_GetOpts.f k s = some (getP l) := by
  unfold pinfoldref1_GetOpts.f
  have := getO_eq s l hs hN l.length 0 k [] (by omega) (by omega) (by simpa using hk) (by simpa [tot] using hN) (by simpa using hN)
  exact this
end Go.Proofs.Ytjiojpconkhdmaa.Fs

namespace Go.Proofs.Ytjiojpconkhdmaa.Fs
open Go.RowKit Go.Maps Go.Proofs.YtjiojpconkhdmaaW.PrintWords Go.Proofs.YtjiojpconkhdmaaW.PrintLast Go.Proofs.YtjiojpconkhdmaaW.PrintMore
set_option linter.unusedVariables false
set_option linter.unusedSimpArgs false
/-- The reference's way to join another part. -/
def overP (l : List S102) (d : List UInt8) : List S102 × Bool := if (getP d).2 = 0 then (joinAll l (noOv (getP d).1), true) else ([], false)
theorem noOv_take (ms : List S102) (k : Nat) (h : k < ms.length) : noOv (ms.take (k + 1)) = if (rd_T102 ms (k : Int)).f0 = 52 then noOv (ms.take k) else noOv (ms.take k) ++ [rd_T102 ms (k : Int)] := by
  rw [rd_take _ _ h, noOv_snoc]
  unfold isOv
  by_cases h2 : (rd_T102 ms (k : Int)).f0 = 52 <;> simp [h2]
theorem joinAll_snoc (l xs : List S102) (x : S102) : joinAll l (xs ++ [x]) = joinOne (joinAll l xs) x := by simp [joinAll]
theorem Good.noOv {l : List S102} {T : Nat} (h : Good l T) : Good (noOv l) T := by
  obtain ⟨h1, h2, h3, h4⟩ := h
  refine ⟨?_, ?_, ?_, ?_⟩
  · unfold codes Fs.noOv at *
    exact List.Nodup.sublist (List.Sublist.map _ List.filter_sublist) h1
  · intro o ho
    exact h2 o (List.mem_filter.1 ho).1
  · refine Nat.le_trans ?_ h3
    unfold Fs.tot Fs.noOv
    clear h1 h2 h3 h4
    induction l with
    | nil => simp
    | cons a r ih =>
      simp only [List.filter_cons]
      split <;> simp only [List.map_cons, List.sum_cons] <;> omega
  · exact Nat.le_trans (noOv_length l) h4
theorem Good.take {l : List S102} {T : Nat} (h : Good l T) (k : Nat) : Good (l.take k) T := by
  obtain ⟨h1, h2, h3, h4⟩ := h
  refine ⟨?_, ?_, ?_, ?_⟩
  · unfold codes at *
    exact List.Nodup.sublist (List.Sublist.map _ (List.take_sublist _ _)) h1
  · intro o ho
    exact h2 o (List.mem_of_mem_take ho)
  · exact Nat.le_trans (tot_take l k) h3
  · rw [List.length_take]; omega
theorem over_join (l ms : List S102) (T : Nat) (k : Nat) (hg : Good l T) (hm : Good ms T) (hT : T ≤ 100000000000) (h : k < ms.length) (hne : (rd_T102 ms (k : Int)).f0 ≠ 52) :
    pinfoldref1_join.f (2 * T + 1) (joinAll l (noOv (ms.take k))) (rd_T102 ms (k : Int)).f0 (rd_T102 ms (k : Int)).f1 = some (joinAll l (noOv (ms.take (k + 1)))) := by
  have h1 := hg.join ((hm.take k).noOv)
  have h2 : (rd_T102 ms (k : Int)).f1.size ≤ tot ms := getD_tot ms k
  have h3 := hm.tot
  rw [ref_join_eq _ _ _ (by have := h1.len; omega) (by have := h1.tot; omega) _ (by have := h1.len; omega), noOv_take _ _ h, if_neg hne, joinAll_snoc]
set_option maxHeartbeats 1000000 in
set_option maxRecDepth 100000 in
theorem over_calls (s : ByteArray) (d : List UInt8) (hs : s.data.toList = d) (hd : d.length ≤ 1000000) (P0 : Nat → Prop) (v : Value) (l : List S102) (T : Nat) (hg : Good l T) (hT : T ≤ 1000000000) (w0 w : World) (hB : Below w0.heap.size w0 w) (ho0 : Kd.R k102 102 w w0.heap.size P0 v l) :
    Calls Try.prog 48 #[v, .string s] w fun e w' => ∃ v0_ : Value, e = .returned (.tuple #[v0_, .bool (overP l d).2]) ∧ Kd.R k102 102 w' w0.heap.size (fun _ => True) v0_ (overP l d).1 ∧ Below w0.heap.size w0 w' := by
  have hgo : pinfoldref1_GetOpts.f (3 * d.length + 4) s = some (getP d) := ref_GetOpts_eq s d hs (by omega) _ (Nat.le_refl _)
  have hgm := getP_good d
  obtain ⟨⟨oa, ob⟩, hov⟩ : ∃ p, p = overP l d := ⟨_, rfl⟩
  rw [← hov]
  unfold overP at hov
  obtain ⟨⟨ms, er⟩, hp⟩ : ∃ p, p = getP d := ⟨_, rfl⟩
  rw [← hp] at hgo hgm hov
  have HGO := Lib.hid hgo
  have HGM := Lib.hid hgm
  have HOV := Lib.hid hov
  have HO := Lib.hid ho0
  have HB := Lib.hid hB
  have HG := Lib.hid hg
  have hws := hB.size
  obtain ⟨A0, c0, rfl⟩ := Kd.R_slice ho0
  clear hgo hgm hov ho0 hB hp hs hg
  by_cases he : er = 0
  · subst he
    have hov2 := HOV.out
    rw [if_pos rfl] at hov2
    injection hov2 with ha hb
    subst hb
    have HA := Lib.hid ha
    clear ha
    go_enter Try.func48, Try.ntmps48
    go_wp2_with (first | (go_at_call 46; refine (pinfoldref1_GetOpts.calls _ s ms 0 _ HGO.out).mono ?_; rintro e w1 ⟨v1, rfl, ho1, hb1⟩; obtain ⟨A1, c1, rfl⟩ := Kd.R_slice ho1))
    have hlen : ms.length ≤ 9223372036854775807 := (Kd.R_reads' ho1).2.2.2.1
    have HO1 := Lib.hid ho1
    have HB1 := Lib.hid hb1
    have hs1 := hb1.size
    clear ho1 hb1
    go_loopw [0, 8] (fun v0 i wr => ∃ (k : Nat) (A : Option Addr) (c : Nat), k ≤ ms.length ∧ i = .int .i64 k ∧ v0 = .slice A (joinAll l (noOv (ms.take k))).length c ∧ Aside0 (Kd.R k102 102 wr w0.heap.size (fun _ => True) (.slice A (joinAll l (noOv (ms.take k))).length c) (joinAll l (noOv (ms.take k)))) ∧ Aside0 (Below w1.heap.size w1 wr)) (fun _ i _ => ms.length - (intOf i).toNat)
    case atStart => exact ⟨0, A0, c0, by omega, rfl, rfl, ⟨Kd.R_mono (Kd.R_below HO.out HB1.out) (fun _ _ => trivial)⟩, ⟨Below.refl _ _⟩⟩
    case round =>
      obtain ⟨k, A, c, hk, rfl, rfl, hR, hBw⟩ := hrel
      have hzs := hBw.out.size
      have hbz : Below w0.heap.size w0 wr := (HB.out.trans (HB1.out.mono hws)).trans (hBw.out.mono (by omega))
      have HBZ := Lib.hid hbz
      clear hbz
      by_cases hlt : k < ms.length
      · obtain ⟨ad, rfl, hx0, hx1⟩ := at_T102 (Kd.R_reads' (Kd.R_below HO1.out hBw.out)).2.2 (k : Int) (by omega) (by omega)
        rw [Int.toNat_natCast] at hx0 hx1
        by_cases h52 : (rd_T102 ms (k : Int)).f0 = 52
        · have hnt : noOv (ms.take (k + 1)) = noOv (ms.take k) := by rw [noOv_take _ _ hlt, if_pos h52]
          have HNT := Lib.hid hnt
          have hbq : ((rd_T102 ms (k : Int)).f0 == 52) = true := beq_iff_eq.2 h52
          have hbn : ((rd_T102 ms (k : Int)).f0 != 52) = false := by rw [bne, hbq]; rfl
          clear hnt h52
          go_wp2
          go_roundw
          case rel => exact ⟨k + 1, A, c, by omega, by go_num, by rw [HNT.out], ⟨by rw [HNT.out]; exact hR.out⟩, ⟨hBw.out⟩⟩
          case measure => simp [intOf]; omega
        · have hj := over_join l ms (T + d.length) k (HG.out.mono (by omega)) (HGM.out.mono (by omega)) (by omega) hlt h52
          have HJ := Lib.hid hj
          have hbq : ((rd_T102 ms (k : Int)).f0 == 52) = false := beq_eq_false_iff_ne.2 h52
          have hbn : ((rd_T102 ms (k : Int)).f0 != 52) = true := by rw [bne, hbq]; rfl
          clear hj h52
          generalize rd_T102 ms (k : Int) = x at hx0 hx1 HJ hbq hbn
          have hRR := Lib.hid (Kd.R_reads' (Kd.R_below hR.out (below_drew (Below.refl wr.heap.size wr))))
          go_wp2
          go_region_with (first | (go_at_call 88; refine (pinfoldref1_join.calls _ A c _ x.f0 x.f1 _ _ hRR.out.2.2 hRR.out.2.1 HJ.out).mono ?_; rintro e w2 ⟨v2, rfl, ho2, hb2⟩; obtain ⟨A2, c2, rfl⟩ := Kd.R_slice ho2))
          all_goals
            go_wp2
            have hbw2 : Below w1.heap.size w1 w2 := (below_drew hBw.out).trans (hb2.mono hzs)
            go_roundw
            case rel => exact ⟨k + 1, A2, c2, by omega, by go_num, rfl, ⟨Kd.R_lower ho2 HBZ.out.size⟩, ⟨hbw2⟩⟩
            case measure => simp [intOf]; omega
      · obtain rfl : k = ms.length := by omega
        have hfull : ms.take ms.length = ms := List.take_of_length_le (Nat.le_refl _)
        have HFULL := Lib.hid hfull
        clear hfull
        go_wp2
        go_ret2
        refine ⟨_, rfl, ?_, HBZ.out⟩
        have h := hR.out
        rw [HA.out]
        rw [HFULL.out] at h ⊢
        exact h
  · have hov2 := HOV.out
    rw [if_neg he] at hov2
    injection hov2 with ha hb
    subst hb
    subst ha
    have heb : (er == 0) = false := beq_eq_false_iff_ne.2 he
    have hen : (er != 0) = true := by rw [bne, heb]; rfl
    clear he
    go_enter Try.func48, Try.ntmps48
    go_wp2_with (first | (go_at_call 46; refine (pinfoldref1_GetOpts.calls _ s ms er _ HGO.out).mono ?_; rintro e w1 ⟨v1, rfl, ho1, hb1⟩; obtain ⟨A1, c1, rfl⟩ := Kd.R_slice ho1))
    go_ret2
    exact ⟨_, rfl, Kd.R_nil _ _ _ _ _, HB.out.trans (hb1.mono hws)⟩
end Go.Proofs.Ytjiojpconkhdmaa.Fs

import Derived.Test.YtjiojpconkhdmaaCM7
import Derived.Test.YtjiojpconkhdmaaCGBits
import Derived.Deep.DeepCutAuto
import Derived.Deep.QuietTactic
import Derived.BigQuiet
namespace Go.Proofs.Ytjiojpconkhdmaa.Fs
open Go.RowKit Go.Maps Go.Proofs.YtjiojpconkhdmaaW.PrintWords Go.Proofs.YtjiojpconkhdmaaW.PrintLast Go.Proofs.YtjiojpconkhdmaaW.PrintMore
set_option linter.unusedVariables false
set_option linter.unusedSimpArgs false
theorem rnum4 (x : Int) (w : World) : Calls Try.prog 41 #[.int .i64 x, .int .i64 4] w fun e w' => e = .returned (.string (be4 x)) ∧ Below w.heap.size w w' := pinfoldref1_Num.calls 6 x 4 _ w (ref_Num_4 x)
theorem numK2_byte (s : ByteArray) (h : 240 ≤ s.size) (h2 : 2 < s.size) : numK s 2 = ((s[2]'h2).toNat : Int) := by
  have hl : 2 < s.data.toList.length := by rw [data_length]; omega
  exact numAt_one s _ rfl 2 hl
/-- Are these the bytes of a packet, as far as the head goes? -/
def headOk (s : ByteArray) : Bool := decide (cookieOk s) && decide (numK s 2 ≤ 16)
structure RZ (w0 w : World) (s : ByteArray) (g gr : Nat) (k : Nat) : Prop where
  r : IsS96 w0 w g s (offK k : Int) false
  z : w.heap[gr]? = some (.cells zero24 24 (0, 0))
  b : Below w0.heap.size w0 w
  ne2 : gr ≠ g
theorem num_rz (s : ByteArray) (h28 : 28 ≤ s.size) (hN : s.size ≤ 1000000000000) (w0 w : World) (g gr : Nat) (k : Nat) (hk : k < 11) (n : Int) (hn : n = (widK k : Int)) (h : RZ w0 w s g gr k) :
    Calls Try.prog 45 #[.pointer (some ⟨g, 0, none⟩), .int .i64 n] w fun e w' => e = .returned (.int .i64 (numK s k)) ∧ RZ w0 w' s g gr (k + 1) := by
  subst hn
  refine (pinfoldref1_reader_num.calls 7 g s (offK k : Int) false (widK k : Int) (numK s k) s (offK (k + 1) : Int) false w0 w h.r h.b (reader_k s k hk h28 hN)).mono ?_
  rintro e w' ⟨rfl, h1, h2, h3⟩
  exact ⟨rfl, ⟨h1, h3.blk h.z h.ne2 (by simp), h2, h.ne2⟩⟩
theorem cell12 {w : World} {b t : Nat} {pc : Array Value} (h : w.heap[b]? = some (.cells pc t (0, 0))) (j : Nat) (hj : j < pc.size) : w.cell? ⟨b, j, none⟩ = some (pc[j]'hj) := by simp [World.cell?, h]
/-- What stands when the numbers have been read. -/
structure PZ (w0 w : World) (gp gr : Nat) (pc : Array Value) : Prop where
  p : w.heap[gp]? = some (.cells pc 24 (0, 0))
  z : w.heap[gr]? = some (.cells zero24 24 (0, 0))
  b : Below w0.heap.size w0 w
theorem PZ.below {w0 w w' : World} {gp gr : Nat} {pc : Array Value} (h : PZ w0 w gp gr pc) (hb : Below w.heap.size w w') : PZ w0 w' gp gr pc := ⟨heap_below h.p hb, heap_below h.z hb, h.b.trans (hb.mono h.b.size)⟩
theorem over_good (l : List S102) (d : List UInt8) (T : Nat) (hg : Good l T) (hd : d.length ≤ 1000000) : Good (overP l d).1 (T + 1000000) := by
  unfold overP
  split
  · exact (hg.join ((getP_good _).noOv)).mono (by omega)
  · exact Good.nil _
theorem shl8 : shl .i64 1 8 = 256 := by decide +kernel
theorem shl16 : shl .i64 1 16 = 65536 := by decide +kernel
theorem shl32 : shl .i64 1 32 = 4294967296 := by decide +kernel
theorem within8 (x : Int) (h0 : 0 ≤ x) (h : x < (256 ^ 1 : Nat)) : pinfoldref1_within.f x 8 = some true := by unfold pinfoldref1_within.f; rw [if_pos h0, if_pos (by decide), shl8, decide_eq_true (by omega)]
theorem within16 (x : Int) (h0 : 0 ≤ x) (h : x < (256 ^ 2 : Nat)) : pinfoldref1_within.f x 16 = some true := by unfold pinfoldref1_within.f; rw [if_pos h0, if_pos (by decide), shl16, decide_eq_true (by omega)]
theorem within32 (x : Int) (h0 : 0 ≤ x) (h : x < (256 ^ 4 : Nat)) : pinfoldref1_within.f x 32 = some true := by unfold pinfoldref1_within.f; rw [if_pos h0, if_pos (by decide), shl32, decide_eq_true (by omega)]
theorem refMay_fits (s : ByteArray) (n : Nat) (hn : n ≤ 16) (os : List S102) : pinfoldref1_PacketMay.f (numK s 0) (numK s 1) (numK s 3) (numK s 4) (numK s 5) (numK s 6) (numK s 7) (numK s 8) (numK s 9) (numK s 10) (s.extract 28 (28 + n)) os = some (optsMay os) := by
  have hf := numK_fits s
  unfold pinfoldref1_PacketMay.f
  rw [within8 _ (hf 0 (by decide)).1 (hf 0 (by decide)).2, Option.bind_some, if_pos rfl, within8 _ (hf 1 (by decide)).1 (hf 1 (by decide)).2, Option.bind_some, if_pos rfl, within8 _ (hf 3 (by decide)).1 (hf 3 (by decide)).2, Option.bind_some, if_pos rfl,
    within32 _ (hf 4 (by decide)).1 (hf 4 (by decide)).2, Option.bind_some, if_pos rfl, within16 _ (hf 5 (by decide)).1 (hf 5 (by decide)).2, Option.bind_some, if_pos rfl, within16 _ (hf 6 (by decide)).1 (hf 6 (by decide)).2, Option.bind_some, if_pos rfl,
    within32 _ (hf 7 (by decide)).1 (hf 7 (by decide)).2, Option.bind_some, if_pos rfl, within32 _ (hf 8 (by decide)).1 (hf 8 (by decide)).2, Option.bind_some, if_pos rfl, within32 _ (hf 9 (by decide)).1 (hf 9 (by decide)).2, Option.bind_some, if_pos rfl, within32 _ (hf 10 (by decide)).1 (hf 10 (by decide)).2, Option.bind_some, if_pos rfl,
    if_pos (by rw [ByteArray.size_extract]; omega)]
  rfl
theorem wh_fact (t : ByteArray) (is : Bool) (wp : Int) (hw : wp = if is = true ∧ t.size = 1 ∧ bt t 0 ≤ 3 then bt t 0 else 0) (h : ¬ wp = 0) : is = true ∧ t.size = 1 ∧ bt t 0 = wp := by
  rw [hw] at h ⊢
  split at h
  · rename_i h3; rw [if_pos h3]; exact ⟨h3.1, h3.2.1, rfl⟩
  · exact absurd rfl h
theorem wh_dec (t : ByteArray) (wp : Int) (hw : wp = if (True ∧ t.size = 1 ∧ bt t 0 ≤ 3) then bt t 0 else 0) (h2 : t.size = 1) (x : Int) (hx : x = bt t 0) (h : 1 ≤ x) : decide (x ≤ 3) = decide (wp ≠ 0) := by
  subst hx
  apply decide_eq_decide.2
  rw [hw]
  split
  · rename_i h3; have := h3.2.2; omega
  · rename_i h3
    have : ¬ bt t 0 ≤ 3 := fun h4 => h3 ⟨trivial, h2, h4⟩
    omega
theorem wh_dec0 (t : ByteArray) (wp : Int) (hw : wp = if (True ∧ t.size = 1 ∧ bt t 0 ≤ 3) then bt t 0 else 0) (h2 : t.size = 1) (x : Int) (hx : x = bt t 0) (h : x < 1) : false = decide (wp ≠ 0) := by
  subst hx
  have := (bt_range t 0).1
  refine (decide_eq_false ?_).symm
  rw [hw]
  split <;> omega
set_option maxHeartbeats 4000000 in
set_option maxRecDepth 100000 in
theorem refGet_calls (s : ByteArray) (hN : s.size ≤ 1048576) (w : World) :
    Calls Try.prog 15 #[.string s] w fun e w' => (∃ v0_ : Value, e = .returned (.tuple #[if isPkt s = true then pkOf s v0_ else zeroPk v0_, .int .i64 (if isPkt s = true then 0 else 700)]) ∧ Kd.R k102 102 w' w.heap.size (fun _ => True) v0_ (if isPkt s = true then (partsP s.data.toList).1 else [])) ∧ Below w.heap.size w w' := by
  have HN := Aside0.mk hN
  have hs63 : s.size ≤ 9223372036854775807 := by omega
  obtain ⟨pk, hpk⟩ : ∃ b, b = isPkt s := ⟨_, rfl⟩
  rw [← hpk]
  have HPK := Aside0.mk hpk
  clear hpk hN
  go_enter Try.func15, Try.ntmps15
  go_upto_region 1 with fail
  go_cut [27] (fun v27 wx => v27 = .bool (!headOk s) ∧ Aside0 (Below (w.heap.size + 1) (w.alloc (.cells zero24 24)) wx))
  case first =>
    by_cases h240 : 240 ≤ s.size
    · have hd : decide ((s.size : Int) < 240) = false := decide_eq_false (by omega)
      have hkk := Aside0.mk (numK2_byte s h240 (by omega))
      have h2 : (2 : Int) < (s.size : Int) := by omega
      by_cases h16 : ((s[2]'(by omega)).toNat : Int) ≤ 16
      · have hd2 : decide ((16 : Int) < ((s[2]'(by omega)).toNat : Int)) = false := decide_eq_false (by omega)
        go_region_with (first | (go_at_call 41; refine (rnum4 _ _).mono ?_; rintro e w1 ⟨rfl, hb1⟩))
        all_goals go_wp2_with fail
        all_goals go_meet
        all_goals exact ⟨congrArg Value.bool (by rw [cookie_val s h240]; unfold headOk; rw [hkk.out, decide_eq_true h16, Bool.and_true]), ⟨(below_drew (Below.refl _ _)).trans (hb1.mono (by simp))⟩⟩
      · have hd2 : decide ((16 : Int) < ((s[2]'(by omega)).toNat : Int)) = true := decide_eq_true (by omega)
        go_quiet (fail)
        go_wp2_with fail
        go_meet
        case rel =>
          refine ⟨congrArg Value.bool (by unfold headOk; rw [hkk.out, decide_eq_false (Int.not_le.2 h16), Bool.and_false]; rfl), ⟨?_⟩⟩
          first
          | exact below_drew (Below.refl _ _)
          | exact pw_below_drewN (Below.refl _ _) _
          | exact Below.refl _ _
    · have hd : decide ((s.size : Int) < 240) = true := decide_eq_true (by omega)
      go_quiet (fail)
      go_wp2_with fail
      go_meet
      case rel =>
        refine ⟨congrArg Value.bool (by unfold headOk; rw [decide_eq_false (fun h => h240 h.1)]; rfl), ⟨?_⟩⟩
        first
        | exact below_drew (Below.refl _ _)
        | exact pw_below_drewN (Below.refl _ _) _
        | exact Below.refl _ _
  case rest =>
    obtain ⟨rfl, hbx⟩ := hcut
    obtain ⟨wd, rfl⟩ : ∃ wd : World, wd = wc := ⟨_, rfl⟩
    have hres := Aside0.mk (hbx.out.block w.heap.size (by omega) |>.trans (heap_alloc_new w _))
    have hww : w.heap.size < wd.heap.size := by have := hbx.out.size; simp at this; omega
    have HBX := Aside0.mk hbx.out
    clear hbx
    cases hho : headOk s with
    | true =>
      have hho' := hho
      unfold headOk at hho'
      rw [Bool.and_eq_true] at hho'
      have hck : cookieOk s := of_decide_eq_true hho'.1
      have h240 : 240 ≤ s.size := hck.1
      have h28 := Aside0.mk (show 28 ≤ s.size by omega)
      have hNN := Aside0.mk (show s.size ≤ 1000000000000 from Nat.le_trans HN.out (by decide))
      have HCK := Aside0.mk hck
      have HHO := Aside0.mk hho
      have h16k := Aside0.mk (of_decide_eq_true hho'.2)
      clear hho hho' hck
      have hz0 : RZ wd (wd.alloc (.cells #[.string s, .int .i64 0, .bool false] 96)) s wd.heap.size w.heap.size 0 := ⟨⟨heap_alloc_new _ _, Nat.le_refl _⟩, (heap_alloc_old _ _ hww).trans hres.out, below_alloc (Below.refl _ _) _, by omega⟩
      have HZ0 := Aside0.mk hz0
      clear hz0
      go_wp2_with fail
      refine (num_rz s h28.out hNN.out wd _ wd.heap.size w.heap.size 0 (by decide) 1 rfl HZ0.out).mono ?_
      rintro e w1 ⟨rfl, hz1⟩
      have HZ1 := Aside0.mk hz1
      clear hz1
      go_wp2_with fail
      refine (num_rz s h28.out hNN.out wd _ wd.heap.size w.heap.size 1 (by decide) 1 rfl HZ1.out).mono ?_
      rintro e w2 ⟨rfl, hz2⟩
      have hwg2 : wd.heap.size < w2.heap.size := (Array.getElem?_eq_some_iff.1 hz2.r.1).1
      have HZ2 := Aside0.mk hz2
      clear hz2
      go_wp2_with fail
      have hr2 : RD wd (w2.alloc (.cells #[.int .i64 (numK s 0), .int .i64 (numK s 1), .int .i64 0, .int .i64 0, .int .i64 0, .int .i64 0, .int .i64 0, .int .i64 0, .int .i64 0, .int .i64 0, .string ⟨#[]⟩, .slice none 0 0] 24)) s wd.heap.size w2.heap.size w.heap.size #[.int .i64 (numK s 0), .int .i64 (numK s 1), .int .i64 0, .int .i64 0, .int .i64 0, .int .i64 0, .int .i64 0, .int .i64 0, .int .i64 0, .int .i64 0, .string ⟨#[]⟩, .slice none 0 0] 2 :=
        ⟨HZ2.out.r.alloc _, heap_alloc_new _ _, (heap_alloc_old _ _ (by omega)).trans HZ2.out.z, below_alloc' HZ2.out.b HZ2.out.b.size _, by omega, by omega, by omega⟩
      refine (num_rd s h28.out hNN.out wd _ wd.heap.size w2.heap.size w.heap.size _ 2 (by decide) 1 rfl hr2).mono ?_
      rintro e w3 ⟨he3, hr3⟩
      obtain ⟨n, hn, hnk⟩ := numK2 s h28.out
      rw [hnk] at he3 
      subst he3
      have h16n : n ≤ 16 := by have := h16k.out; rw [hnk] at this; omega
      have HNK := Aside0.mk hnk
      clear hnk
      clear hr2
      have HR3 := Aside0.mk hr3
      clear hr3
      go_wp2_with fail
      refine (num_rd s h28.out hNN.out wd _ wd.heap.size w2.heap.size w.heap.size _ 3 (by decide) 1 rfl HR3.out).mono ?_
      rintro e w4 ⟨rfl, hq4⟩
      have hd4 := cell12 hq4.p 2 (show 2 < 12 by decide)
      have hf4 := blk_frozen hq4.p 2
      have HQ4 := Aside0.mk hq4
      clear hq4 HR3
      have hr4 : RD wd (w4.setCell ⟨w2.heap.size, 2, none⟩ (.int .i64 (numK s 3))) s wd.heap.size w2.heap.size w.heap.size #[.int .i64 (numK s 0), .int .i64 (numK s 1), .int .i64 (numK s 3), .int .i64 0, .int .i64 0, .int .i64 0, .int .i64 0, .int .i64 0, .int .i64 0, .int .i64 0, .string ⟨#[]⟩, .slice none 0 0] 4 := HQ4.out.set (by omega) 2 _
      clear HQ4
      have HR4 := Aside0.mk hr4
      clear hr4
      go_wp2_with fail
      clear hd4 hf4
      refine (num_rd s h28.out hNN.out wd _ wd.heap.size w2.heap.size w.heap.size _ 4 (by decide) 4 rfl HR4.out).mono ?_
      rintro e w5 ⟨rfl, hq5⟩
      have hd5 := cell12 hq5.p 3 (show 3 < 12 by decide)
      have hf5 := blk_frozen hq5.p 3
      have HQ5 := Aside0.mk hq5
      clear hq5 HR4
      have hr5 : RD wd (w5.setCell ⟨w2.heap.size, 3, none⟩ (.int .i64 (numK s 4))) s wd.heap.size w2.heap.size w.heap.size #[.int .i64 (numK s 0), .int .i64 (numK s 1), .int .i64 (numK s 3), .int .i64 (numK s 4), .int .i64 0, .int .i64 0, .int .i64 0, .int .i64 0, .int .i64 0, .int .i64 0, .string ⟨#[]⟩, .slice none 0 0] 5 := HQ5.out.set (by omega) 3 _
      clear HQ5
      have HR5 := Aside0.mk hr5
      clear hr5
      go_wp2_with fail
      clear hd5 hf5
      refine (num_rd s h28.out hNN.out wd _ wd.heap.size w2.heap.size w.heap.size _ 5 (by decide) 2 rfl HR5.out).mono ?_
      rintro e w6 ⟨rfl, hq6⟩
      have hd6 := cell12 hq6.p 4 (show 4 < 12 by decide)
      have hf6 := blk_frozen hq6.p 4
      have HQ6 := Aside0.mk hq6
      clear hq6 HR5
      have hr6 : RD wd (w6.setCell ⟨w2.heap.size, 4, none⟩ (.int .i64 (numK s 5))) s wd.heap.size w2.heap.size w.heap.size #[.int .i64 (numK s 0), .int .i64 (numK s 1), .int .i64 (numK s 3), .int .i64 (numK s 4), .int .i64 (numK s 5), .int .i64 0, .int .i64 0, .int .i64 0, .int .i64 0, .int .i64 0, .string ⟨#[]⟩, .slice none 0 0] 6 := HQ6.out.set (by omega) 4 _
      clear HQ6
      have HR6 := Aside0.mk hr6
      clear hr6
      go_wp2_with fail
      clear hd6 hf6
      refine (num_rd s h28.out hNN.out wd _ wd.heap.size w2.heap.size w.heap.size _ 6 (by decide) 2 rfl HR6.out).mono ?_
      rintro e w7 ⟨rfl, hq7⟩
      have hd7 := cell12 hq7.p 5 (show 5 < 12 by decide)
      have hf7 := blk_frozen hq7.p 5
      have HQ7 := Aside0.mk hq7
      clear hq7 HR6
      have hr7 : RD wd (w7.setCell ⟨w2.heap.size, 5, none⟩ (.int .i64 (numK s 6))) s wd.heap.size w2.heap.size w.heap.size #[.int .i64 (numK s 0), .int .i64 (numK s 1), .int .i64 (numK s 3), .int .i64 (numK s 4), .int .i64 (numK s 5), .int .i64 (numK s 6), .int .i64 0, .int .i64 0, .int .i64 0, .int .i64 0, .string ⟨#[]⟩, .slice none 0 0] 7 := HQ7.out.set (by omega) 5 _
      clear HQ7
      have HR7 := Aside0.mk hr7
      clear hr7
      go_wp2_with fail
      clear hd7 hf7
      refine (num_rd s h28.out hNN.out wd _ wd.heap.size w2.heap.size w.heap.size _ 7 (by decide) 4 rfl HR7.out).mono ?_
      rintro e w8 ⟨rfl, hq8⟩
      have hd8 := cell12 hq8.p 6 (show 6 < 12 by decide)
      have hf8 := blk_frozen hq8.p 6
      have HQ8 := Aside0.mk hq8
      clear hq8 HR7
      have hr8 : RD wd (w8.setCell ⟨w2.heap.size, 6, none⟩ (.int .i64 (numK s 7))) s wd.heap.size w2.heap.size w.heap.size #[.int .i64 (numK s 0), .int .i64 (numK s 1), .int .i64 (numK s 3), .int .i64 (numK s 4), .int .i64 (numK s 5), .int .i64 (numK s 6), .int .i64 (numK s 7), .int .i64 0, .int .i64 0, .int .i64 0, .string ⟨#[]⟩, .slice none 0 0] 8 := HQ8.out.set (by omega) 6 _
      clear HQ8
      have HR8 := Aside0.mk hr8
      clear hr8
      go_wp2_with fail
      clear hd8 hf8
      refine (num_rd s h28.out hNN.out wd _ wd.heap.size w2.heap.size w.heap.size _ 8 (by decide) 4 rfl HR8.out).mono ?_
      rintro e w9 ⟨rfl, hq9⟩
      have hd9 := cell12 hq9.p 7 (show 7 < 12 by decide)
      have hf9 := blk_frozen hq9.p 7
      have HQ9 := Aside0.mk hq9
      clear hq9 HR8
      have hr9 : RD wd (w9.setCell ⟨w2.heap.size, 7, none⟩ (.int .i64 (numK s 8))) s wd.heap.size w2.heap.size w.heap.size #[.int .i64 (numK s 0), .int .i64 (numK s 1), .int .i64 (numK s 3), .int .i64 (numK s 4), .int .i64 (numK s 5), .int .i64 (numK s 6), .int .i64 (numK s 7), .int .i64 (numK s 8), .int .i64 0, .int .i64 0, .string ⟨#[]⟩, .slice none 0 0] 9 := HQ9.out.set (by omega) 7 _
      clear HQ9
      have HR9 := Aside0.mk hr9
      clear hr9
      go_wp2_with fail
      clear hd9 hf9
      refine (num_rd s h28.out hNN.out wd _ wd.heap.size w2.heap.size w.heap.size _ 9 (by decide) 4 rfl HR9.out).mono ?_
      rintro e w10 ⟨rfl, hq10⟩
      have hd10 := cell12 hq10.p 8 (show 8 < 12 by decide)
      have hf10 := blk_frozen hq10.p 8
      have HQ10 := Aside0.mk hq10
      clear hq10 HR9
      have hr10 : RD wd (w10.setCell ⟨w2.heap.size, 8, none⟩ (.int .i64 (numK s 9))) s wd.heap.size w2.heap.size w.heap.size #[.int .i64 (numK s 0), .int .i64 (numK s 1), .int .i64 (numK s 3), .int .i64 (numK s 4), .int .i64 (numK s 5), .int .i64 (numK s 6), .int .i64 (numK s 7), .int .i64 (numK s 8), .int .i64 (numK s 9), .int .i64 0, .string ⟨#[]⟩, .slice none 0 0] 10 := HQ10.out.set (by omega) 8 _
      clear HQ10
      have HR10 := Aside0.mk hr10
      clear hr10
      go_wp2_with fail
      clear hd10 hf10
      refine (num_rd s h28.out hNN.out wd _ wd.heap.size w2.heap.size w.heap.size _ 10 (by decide) 4 rfl HR10.out).mono ?_
      rintro e w11 ⟨rfl, hq11⟩
      have hd11 := cell12 hq11.p 9 (show 9 < 12 by decide)
      have hf11 := blk_frozen hq11.p 9
      have HQ11 := Aside0.mk hq11
      clear hq11 HR10
      have hr11 : RD wd (w11.setCell ⟨w2.heap.size, 9, none⟩ (.int .i64 (numK s 10))) s wd.heap.size w2.heap.size w.heap.size #[.int .i64 (numK s 0), .int .i64 (numK s 1), .int .i64 (numK s 3), .int .i64 (numK s 4), .int .i64 (numK s 5), .int .i64 (numK s 6), .int .i64 (numK s 7), .int .i64 (numK s 8), .int .i64 (numK s 9), .int .i64 (numK s 10), .string ⟨#[]⟩, .slice none 0 0] 11 := HQ11.out.set (by omega) 9 _
      clear HQ11
      have HR11 := Aside0.mk hr11
      clear hr11
      have hd11 := cell12 HR11.out.p 10 (show 10 < 12 by decide)
      have hf11 := blk_frozen HR11.out.p 10
      have hex : s.extract 28 (28 + n) = s.extract 28 (28 + (numK s 2).toNat) := by rw [HNK.out, Int.toNat_natCast]
      have HEX := Aside0.mk hex
      clear hex
      go_wp2_with fail
      have hpz : PZ wd ((w11.setCell ⟨w2.heap.size, 9, none⟩ (.int .i64 (numK s 10))).setCell ⟨w2.heap.size, 10, none⟩ (.string (s.extract 28 (28 + n)))) w2.heap.size w.heap.size #[.int .i64 (numK s 0), .int .i64 (numK s 1), .int .i64 (numK s 3), .int .i64 (numK s 4), .int .i64 (numK s 5), .int .i64 (numK s 6), .int .i64 (numK s 7), .int .i64 (numK s 8), .int .i64 (numK s 9), .int .i64 (numK s 10), .string (s.extract 28 (28 + n)), .slice none 0 0] :=
        let h := HR11.out.set (by omega) 10 (.string (s.extract 28 (28 + n))); ⟨h.p, h.z, h.b⟩
      have HPZ := Aside0.mk hpz
      clear hpz hd11 hf11 HR11 HZ0 HZ1 HZ2
      have hgo : pinfoldref1_GetOpts.f (3 * (s.data.toList.drop 240).length + 4) (s.extract 240 s.size) = some (getP (s.data.toList.drop 240)) := by
        refine ref_GetOpts_eq _ _ ?_ ?_ _ (Nat.le_refl _)
        · rw [ext_of (rfl : s.data.toList = s.data.toList), List.take_of_length_le (by rw [data_length]; exact Nat.le_refl _)]
        · rw [List.length_drop, data_length]; have := HN.out; omega
      have hgd := getP_good (s.data.toList.drop 240)
      have hT : (s.data.toList.drop 240).length ≤ 1048576 := by rw [List.length_drop, data_length]; have := HN.out; omega
      have hpk2 : pk = (headOk s && ((refParts s.data.toList).2 && optsMay (refParts s.data.toList).1)) := by rw [HPK.out, ← (parts_ref s.data.toList).1]; rfl
      rw [HHO.out, Bool.true_and] at hpk2
      have HPK2 := Aside0.mk hpk2
      have hrp : refParts s.data.toList = refParts s.data.toList := rfl
      conv at hrp => rhs; unfold refParts
      obtain ⟨⟨os, er⟩, hp⟩ : ∃ p, p = getP (s.data.toList.drop 240) := ⟨_, rfl⟩
      rw [← hp] at hgo hgd hrp
      have HGO := Aside0.mk hgo
      have HGD := Aside0.mk hgd
      have HRP := Aside0.mk hrp
      have HTT := Aside0.mk hT
      clear hgo hgd hp hpk2 hT hrp
      refine (pinfoldref1_GetOpts.calls _ _ os er _ HGO.out).mono ?_
      rintro e w12 ⟨v7, rfl, ho7, hb12⟩
      obtain ⟨A7, c7, rfl⟩ := Kd.R_slice ho7
      have HPZ12 := Aside0.mk (HPZ.out.below hb12)
      have HO7 := Aside0.mk (Kd.R_lower ho7 (show wd.heap.size ≤ _ from HPZ.out.b.size))
      have hgp : wd.heap.size < w12.heap.size := by have := (Array.getElem?_eq_some_iff.1 HPZ12.out.p).1; omega
      clear ho7 hb12 HPZ
      have hbwc : Below w.heap.size w wd := (below_alloc (Below.refl w.heap.size w) _).trans (HBX.out.mono (by omega))
      have HBWC := Aside0.mk hbwc
      clear hbwc
      by_cases he : er = 0
      · subst he
        have hfd : pinfoldref1_FindOpt.f (1048576 + 1) os 52 = some (findP 52 os) := ref_Find_eq 52 _ (by have : os.length ≤ _ := HGD.out.len; have := HTT.out; omega) _ (by have : os.length ≤ _ := HGD.out.len; have := HTT.out; omega)
        generalize hft : findP 52 os = ft at hfd
        obtain ⟨t, is⟩ := ft
        have HFT := Aside0.mk hft
        have HFD := Aside0.mk hfd
        have hwp : whereP os = if is = true ∧ t.size = 1 ∧ bt t 0 ≤ 3 then bt t 0 else 0 := by unfold whereP; rw [hft]
        have HWP := Aside0.mk hwp
        clear hft hfd hwp
        have hr7 := Aside0.mk (Kd.R_reads' HO7.out)
        go_upto_region 19 with (first | (go_at_call 47; refine (pinfoldref1_FindOpt.calls _ A7 c7 os 52 t is _ hr7.out.2.2 hr7.out.2.1 HFD.out).mono ?_; rintro e w13 ⟨rfl, ⟨nd, rfl⟩⟩))
        have HPZ13 := Aside0.mk (HPZ12.out.below (pw_below_drewN (Below.refl _ _) nd))
        have HO8 := Aside0.mk (Kd.R_drewN HO7.out nd)
        generalize w12.drewN nd = w13 at HPZ13 HO8 ⊢
        clear HPZ12 HO7 hr7
        go_cut [97] (fun v97 wx => v97 = .bool (decide (whereP os ≠ 0)) ∧ wx = w13)
        case first =>
          by_cases h1 : is = true
          · subst h1
            by_cases h2 : t.size = 1
            · have hc1 : (0 : Int).toNat < t.size := by rw [h2]; decide
              have hb0 : ((t[0]'hc1).toNat : Int) = bt t 0 := bt_at t 0 hc1
              have hrg := bt_range t 0
              have hlt0 : (0 : Int) < (t.size : Int) := by rw [h2]; decide
              have HR := Aside0.mk hrg
              have H2 := Aside0.mk h2
              obtain ⟨b, hbb⟩ : ∃ b : Int, b = bt t 0 := ⟨_, rfl⟩
              rw [← hbb] at hb0 hrg
              obtain ⟨hg1, hg2⟩ := hrg
              have HBB := Aside0.mk hbb
              clear hbb HR
              go_wp2
              all_goals go_meet
              case rel => exact ⟨congrArg Value.bool (wh_dec t _ HWP.out H2.out _ HBB.out (by omega)), rfl⟩
              case rel => exact ⟨congrArg Value.bool (wh_dec0 t _ HWP.out H2.out _ HBB.out (by omega)), rfl⟩
            · have hsb : ((t.size : Int) == 1) = false := by simp only [beq_eq_false_iff_ne, ne_eq]; omega
              have H2 := Aside0.mk h2
              clear h2
              go_wp2
              all_goals go_meet
              case rel => exact ⟨congrArg Value.bool (by rw [HWP.out, if_neg (fun h => H2.out h.2.1)]; rfl), rfl⟩
          · obtain rfl : is = false := by simpa using h1
            clear h1
            go_wp2
            all_goals go_meet
            case rel => exact ⟨congrArg Value.bool (by rw [HWP.out, if_neg (fun h => by cases h.1)]; rfl), rfl⟩
        case rest =>
          obtain ⟨rfl, rfl⟩ := hcut
          have hszc := HPZ13.out.b.size
          have hgd2 : Good (noOv os) 1048576 := (HGD.out.noOv).mono HTT.out
          have HGN := Aside0.mk hgd2
          clear hgd2
          go_upto_if 97 with fail
          go_cut [7] (fun v7 wx => ∃ (A : Option Addr) (c : Nat), v7 = .slice A (refParts s.data.toList).1.length c ∧ Aside0 ((refParts s.data.toList).2 = true) ∧ Aside0 (Kd.R k102 102 wx wd.heap.size (fun _ => True) (.slice A (refParts s.data.toList).1.length c) (refParts s.data.toList).1) ∧ Aside0 (PZ wd wx w2.heap.size w.heap.size #[.int .i64 (numK s 0), .int .i64 (numK s 1), .int .i64 (numK s 3), .int .i64 (numK s 4), .int .i64 (numK s 5), .int .i64 (numK s 6), .int .i64 (numK s 7), .int .i64 (numK s 8), .int .i64 (numK s 9), .int .i64 (numK s 10), .string (s.extract 28 (28 + n)), .slice none 0 0]))
          case first =>
            by_cases hw0 : whereP os = 0
            · have hrf : refParts s.data.toList = (os, true) := by rw [HRP.out, if_neg (show ¬ ((0 : Int) ≠ 0) from fun h => h rfl)]; exact if_pos hw0
              rw [decide_eq_false (fun h => h hw0)]
              go_wp2_with fail
              go_meet
              case rel => exact ⟨A7, c7, by rw [hrf], ⟨by rw [hrf]⟩, ⟨by rw [hrf]; exact HO8.out⟩, ⟨HPZ13.out⟩⟩
            · obtain ⟨his, hsz1, hbt⟩ := wh_fact t is _ HWP.out hw0
              rw [decide_eq_true hw0]
              subst his
              have HBT := Aside0.mk hbt
              have HSZ1 := Aside0.mk hsz1
              have HW0 := Aside0.mk hw0
              clear hbt hsz1 hw0
              have hlen : os.length ≤ 1048576 := Nat.le_trans HGD.out.len HTT.out
              go_wp2_with fail
              go_loopw [11, 12] (fun v11 i wr => ∃ (k : Nat) (A : Option Addr) (c : Nat), k ≤ os.length ∧ i = .int .i64 k ∧ v11 = .slice A (noOv (os.take k)).length c ∧ Aside0 (Kd.R k102 102 wr wc.heap.size (fun _ => True) (.slice A (noOv (os.take k)).length c) (noOv (os.take k))) ∧ Aside0 (Below wc.heap.size wc wr)) (fun _ i _ => os.length - (intOf i).toNat)
              case atStart => exact ⟨0, none, 0, by omega, rfl, rfl, ⟨Kd.R_nil _ _ _ _ _⟩, ⟨Below.refl _ _⟩⟩
              case round =>
                obtain ⟨k, A, c, hk, rfl, rfl, hR, hBw⟩ := hrel
                have hzs := hBw.out.size
                by_cases hlt : k < os.length
                · obtain ⟨ad, rfl, hx0, hx1⟩ := at_T102 (Kd.R_reads' (Kd.R_below HO8.out hBw.out)).2.2 (k : Int) (by omega) (by omega)
                  rw [Int.toNat_natCast] at hx0 hx1
                  have hnl : (noOv (os.take k)).length ≤ 1048576 := Nat.le_trans (noOv_length _) (by rw [List.length_take]; omega)
                  by_cases h52 : (rd_T102 os (k : Int)).f0 = 52
                  · have hnt : noOv (os.take (k + 1)) = noOv (os.take k) := by rw [noOv_take _ _ hlt, if_pos h52]
                    have HNT := Aside0.mk hnt
                    have hbq : ((rd_T102 os (k : Int)).f0 == 52) = true := beq_iff_eq.2 h52
                    have hbn : ((rd_T102 os (k : Int)).f0 != 52) = false := by rw [bne, hbq]; rfl
                    clear hnt h52
                    go_wp2
                    go_roundw
                    case rel => exact ⟨k + 1, A, c, by omega, by go_num, by rw [HNT.out], ⟨by rw [HNT.out]; exact hR.out⟩, ⟨hBw.out⟩⟩
                    case measure => simp [intOf]; omega
                  · have hnt : noOv (os.take (k + 1)) = noOv (os.take k) ++ [rd_T102 os (k : Int)] := by rw [noOv_take _ _ hlt, if_neg h52]
                    have HNT := Aside0.mk hnt
                    have hbq : ((rd_T102 os (k : Int)).f0 == 52) = false := beq_eq_false_iff_ne.2 h52
                    have hbn : ((rd_T102 os (k : Int)).f0 != 52) = true := by rw [bne, hbq]; rfl
                    clear hnt h52
                    generalize rd_T102 os (k : Int) = x at hx0 hx1 HNT hbq hbn
                    go_wp2_with (first | ((with_reducible refine gate_builtin (b := .append) (xs := #[.tmp 110, .tmp 115]) rfl ?_); at_builtin; refine Kd.R_append k102 (w0 := wc) wc.heap.size rfl (.tmp 110) (.tmp 115) 22 102 (.agg #[(.int .i64 0), (.string ⟨#[]⟩)]) 24 rfl Try.underlying22 info102 rfl (by decide) (by omega) (.slice A (noOv (os.take k)).length c) (noOv (os.take k)) x [.int .i64 x.f0, .string x.f1] (fun _ => True) (fun _ => False) rfl rfl ?aP (fun _ hk => hk.elim) ?aF ?aO ?aB ?aS ?aL ?_; (case aP => exact k102_mkM _ _ _ x); (case aF => exact (fun _ _ => trivial)); (case aO => exact hR.out); (case aB => exact hBw.out); (case aS => exact hzs); (case aL => omega); intro v1 w1 ho hb hg hat; obtain ⟨A1, c1, rfl⟩ := Kd.R_slice ho; clear hg hat))
                    go_roundw
                    case rel => exact ⟨k + 1, A1, c1, by omega, by go_num, by rw [HNT.out, List.length_append]; rfl, ⟨by rw [HNT.out]; exact ho⟩, ⟨hb⟩⟩
                    case measure => simp [intOf]; omega
                · obtain rfl : k = os.length := by omega
                  have hfull : os.take os.length = os := List.take_of_length_le (Nat.le_refl _)
                  have hO := hR.out
                  rw [hfull] at hO ⊢
                  have HO9 := Aside0.mk hO
                  have HBW := Aside0.mk hBw.out
                  clear hO hfull hR hBw hlt hk
                  have hlt0 : (0 : Int) < (t.size : Int) := by rw [HSZ1.out]; decide
                  have ht0 : 0 < t.size := by rw [HSZ1.out]; decide
                  have h236 : (236 : Int) ≤ (s.size : Int) := by omega
                  have hbwx : Below w.heap.size w wr := HBWC.out.trans ((HPZ13.out.b.trans (HBW.out.mono hszc)).mono (by omega))
                  have HBWX := Aside0.mk hbwx
                  clear hbwx
                  have hunf : refParts s.data.toList = (let o1 := if whereP os ≠ 2 then overP (noOv os) ((s.data.toList.take 236).drop 108) else (noOv os, true); if o1.2 = true ∧ whereP os ≠ 1 then overP o1.1 ((s.data.toList.take 108).drop 44) else o1) := by rw [HRP.out, if_neg (show ¬ ((0 : Int) ≠ 0) from fun h => h rfl)]; exact if_neg HW0.out
                  have HUNF := Aside0.mk hunf
                  clear hunf
                  have hl1 : ((s.data.toList.take 236).drop 108).length ≤ 1000000 := by rw [List.length_drop, List.length_take]; omega
                  have hl2 : ((s.data.toList.take 108).drop 44).length ≤ 1000000 := by rw [List.length_drop, List.length_take]; omega
                  have HL1 := Aside0.mk hl1
                  have HL2 := Aside0.mk hl2
                  clear hl1 hl2
                  obtain ⟨⟨oa, ob⟩, hov⟩ : ∃ p, p = overP (noOv os) ((s.data.toList.take 236).drop 108) := ⟨_, rfl⟩
                  have hc1 := over_calls (s.extract 108 236) ((s.data.toList.take 236).drop 108) (ext_of rfl _ _) HL1.out (fun _ => True) _ (noOv os) 1048576 HGN.out (by omega) wc wr HBW.out HO9.out
                  rw [← hov] at hc1
                  have HC1 := Aside0.mk hc1
                  have HOV := Aside0.mk hov
                  clear hc1 hov
                  have hcs : whereP os = 1 ∨ whereP os = 2 ∨ whereP os = 3 := by have := whereP_cases os; have := HW0.out; omega
                  rcases hcs with hw | hw | hw
                  · have hb0 : ((t[0]'ht0).toNat : Int) = 1 := (bt_at t 0 ht0).trans (HBT.out.trans hw)
                    have HW := Aside0.mk hw
                    clear hw
                    go_wp2_with fail
                    refine HC1.out.mono ?_
                    rintro e w14 ⟨v14, rfl, ho14, hb14⟩
                    obtain ⟨A14, c14, rfl⟩ := Kd.R_slice ho14
                    have HO14 := Aside0.mk ho14
                    have HB14 := Aside0.mk hb14
                    have hz14 := hb14.size
                    clear ho14 hb14
                    cases ob with
                    | false =>
                      have hrf : (refParts s.data.toList).2 = false := by rw [HUNF.out]; rw [HW.out, ← HOV.out]; rfl
                      have hpf : pk = false := by rw [HPK2.out, hrf]; rfl
                      subst hpf
                      clear hrf
                      have hze := Aside0.mk (heap_below HPZ13.out.z HB14.out)
                      obtain ⟨e0, e1, e2, e3, e4, e5, e6, e7, e8, e9, e10, e11⟩ := box12 hze.out
                      have f0 := blk_frozen hze.out 0
                      have f1 := blk_frozen hze.out 1
                      have f2 := blk_frozen hze.out 2
                      have f3 := blk_frozen hze.out 3
                      have f4 := blk_frozen hze.out 4
                      have f5 := blk_frozen hze.out 5
                      have f6 := blk_frozen hze.out 6
                      have f7 := blk_frozen hze.out 7
                      have f8 := blk_frozen hze.out 8
                      have f9 := blk_frozen hze.out 9
                      have f10 := blk_frozen hze.out 10
                      have f11 := blk_frozen hze.out 11
                      go_wp2_with fail
                      refine bodyPost_ret (results_ct rfl _ _ w.heap.size 24 zero24 (0, 0) _ rfl (set12 hze.out _ _ _ _ _ _ _ _ _ _ _ _) Try.underlying24 rfl (by kernel_rfl)) rfl ?_
                      refine ⟨⟨.slice none 0 0, rfl, Kd.R_nil _ _ _ _ _⟩, ?_⟩
                      exact below12 (HBWC.out.trans ((HPZ13.out.b.trans (HB14.out.mono hszc)).mono (by omega))) (Nat.le_refl _) _ _ _ _ _ _ _ _ _ _ _ _
                    | true =>
                      have hrf : refParts s.data.toList = (oa, true) := by rw [HUNF.out]; rw [HW.out, ← HOV.out]; rfl
                      have HRF := Aside0.mk hrf
                      clear hrf
                      go_wp2_with fail
                      go_meet
                      case rel => exact ⟨A14, c14, by rw [HRF.out], ⟨by rw [HRF.out]⟩, ⟨by rw [HRF.out]; exact Kd.R_lower HO14.out hszc⟩, ⟨HPZ13.out.below HB14.out⟩⟩
                  · have hb0 : ((t[0]'ht0).toNat : Int) = 2 := (bt_at t 0 ht0).trans (HBT.out.trans hw)
                    have HW := Aside0.mk hw
                    clear hw
                    obtain ⟨⟨pa, pb⟩, hpv⟩ : ∃ p, p = overP (noOv os) ((s.data.toList.take 108).drop 44) := ⟨_, rfl⟩
                    have hc2 := over_calls (s.extract 44 108) ((s.data.toList.take 108).drop 44) (ext_of rfl _ _) HL2.out (fun _ => True) _ (noOv os) 1048576 HGN.out (by omega) wc wr HBW.out HO9.out
                    rw [← hpv] at hc2
                    have HC2 := Aside0.mk hc2
                    have HPV := Aside0.mk hpv
                    clear hc2 hpv
                    go_wp2_with fail
                    refine HC2.out.mono ?_
                    rintro e w15 ⟨v15, rfl, ho15, hb15⟩
                    obtain ⟨A15, c15, rfl⟩ := Kd.R_slice ho15
                    have HO15 := Aside0.mk ho15
                    have HB15 := Aside0.mk hb15
                    have hz15 := hb15.size
                    clear ho15 hb15
                    have hrf : refParts s.data.toList = (pa, pb) := by rw [HUNF.out]; rw [HW.out]; rw [HPV.out]; rfl
                    have HRF := Aside0.mk hrf
                    clear hrf
                    cases pb with
                    | false =>
                      have hpf : pk = false := by rw [HPK2.out, HRF.out]; rfl
                      subst hpf
                      have hze := Aside0.mk (heap_below HPZ13.out.z HB15.out)
                      obtain ⟨e0, e1, e2, e3, e4, e5, e6, e7, e8, e9, e10, e11⟩ := box12 hze.out
                      have f0 := blk_frozen hze.out 0
                      have f1 := blk_frozen hze.out 1
                      have f2 := blk_frozen hze.out 2
                      have f3 := blk_frozen hze.out 3
                      have f4 := blk_frozen hze.out 4
                      have f5 := blk_frozen hze.out 5
                      have f6 := blk_frozen hze.out 6
                      have f7 := blk_frozen hze.out 7
                      have f8 := blk_frozen hze.out 8
                      have f9 := blk_frozen hze.out 9
                      have f10 := blk_frozen hze.out 10
                      have f11 := blk_frozen hze.out 11
                      go_wp2_with fail
                      refine bodyPost_ret (results_ct rfl _ _ w.heap.size 24 zero24 (0, 0) _ rfl (set12 hze.out _ _ _ _ _ _ _ _ _ _ _ _) Try.underlying24 rfl (by kernel_rfl)) rfl ?_
                      refine ⟨⟨.slice none 0 0, rfl, Kd.R_nil _ _ _ _ _⟩, ?_⟩
                      exact below12 (HBWC.out.trans ((HPZ13.out.b.trans (HB15.out.mono hszc)).mono (by omega))) (Nat.le_refl _) _ _ _ _ _ _ _ _ _ _ _ _
                    | true =>
                      go_wp2_with fail
                      go_meet
                      case rel => exact ⟨A15, c15, by rw [HRF.out], ⟨by rw [HRF.out]⟩, ⟨by rw [HRF.out]; exact Kd.R_lower HO15.out hszc⟩, ⟨HPZ13.out.below HB15.out⟩⟩
                  · have hb0 : ((t[0]'ht0).toNat : Int) = 3 := (bt_at t 0 ht0).trans (HBT.out.trans hw)
                    have HW := Aside0.mk hw
                    clear hw
                    go_wp2_with fail
                    refine HC1.out.mono ?_
                    rintro e w14 ⟨v14, rfl, ho14, hb14⟩
                    obtain ⟨A14, c14, rfl⟩ := Kd.R_slice ho14
                    have HO14 := Aside0.mk ho14
                    have HB14 := Aside0.mk hb14
                    have hz14 := hb14.size
                    clear ho14 hb14
                    cases ob with
                    | false =>
                      have hrf : (refParts s.data.toList).2 = false := by rw [HUNF.out]; rw [HW.out, ← HOV.out]; rfl
                      have hpf : pk = false := by rw [HPK2.out, hrf]; rfl
                      subst hpf
                      clear hrf
                      have hze := Aside0.mk (heap_below HPZ13.out.z HB14.out)
                      obtain ⟨e0, e1, e2, e3, e4, e5, e6, e7, e8, e9, e10, e11⟩ := box12 hze.out
                      have f0 := blk_frozen hze.out 0
                      have f1 := blk_frozen hze.out 1
                      have f2 := blk_frozen hze.out 2
                      have f3 := blk_frozen hze.out 3
                      have f4 := blk_frozen hze.out 4
                      have f5 := blk_frozen hze.out 5
                      have f6 := blk_frozen hze.out 6
                      have f7 := blk_frozen hze.out 7
                      have f8 := blk_frozen hze.out 8
                      have f9 := blk_frozen hze.out 9
                      have f10 := blk_frozen hze.out 10
                      have f11 := blk_frozen hze.out 11
                      go_wp2_with fail
                      refine bodyPost_ret (results_ct rfl _ _ w.heap.size 24 zero24 (0, 0) _ rfl (set12 hze.out _ _ _ _ _ _ _ _ _ _ _ _) Try.underlying24 rfl (by kernel_rfl)) rfl ?_
                      refine ⟨⟨.slice none 0 0, rfl, Kd.R_nil _ _ _ _ _⟩, ?_⟩
                      exact below12 (HBWC.out.trans ((HPZ13.out.b.trans (HB14.out.mono hszc)).mono (by omega))) (Nat.le_refl _) _ _ _ _ _ _ _ _ _ _ _ _
                    | true =>
                      have hga : Good oa 2048576 := by have h := over_good (noOv os) ((s.data.toList.take 236).drop 108) 1048576 HGN.out HL1.out; rw [← HOV.out] at h; exact h
                      obtain ⟨⟨pa, pb⟩, hpv⟩ : ∃ p, p = overP (oa) ((s.data.toList.take 108).drop 44) := ⟨_, rfl⟩
                      have hc2 := over_calls (s.extract 44 108) ((s.data.toList.take 108).drop 44) (ext_of rfl _ _) HL2.out (fun _ => True) _ (oa) 2048576 hga (by omega) wc w14 HB14.out HO14.out
                      rw [← hpv] at hc2
                      have HC2 := Aside0.mk hc2
                      have HPV := Aside0.mk hpv
                      clear hc2 hpv
                      go_wp2_with fail
                      refine HC2.out.mono ?_
                      rintro e w15 ⟨v15, rfl, ho15, hb15⟩
                      obtain ⟨A15, c15, rfl⟩ := Kd.R_slice ho15
                      have HO15 := Aside0.mk ho15
                      have HB15 := Aside0.mk hb15
                      have hz15 := hb15.size
                      clear ho15 hb15
                      have hrf : refParts s.data.toList = (pa, pb) := by rw [HUNF.out]; rw [HW.out, ← HOV.out]; rw [HPV.out]; rfl
                      have HRF := Aside0.mk hrf
                      clear hrf
                      cases pb with
                      | false =>
                        have hpf : pk = false := by rw [HPK2.out, HRF.out]; rfl
                        subst hpf
                        have hze := Aside0.mk (heap_below HPZ13.out.z HB15.out)
                        obtain ⟨e0, e1, e2, e3, e4, e5, e6, e7, e8, e9, e10, e11⟩ := box12 hze.out
                        have f0 := blk_frozen hze.out 0
                        have f1 := blk_frozen hze.out 1
                        have f2 := blk_frozen hze.out 2
                        have f3 := blk_frozen hze.out 3
                        have f4 := blk_frozen hze.out 4
                        have f5 := blk_frozen hze.out 5
                        have f6 := blk_frozen hze.out 6
                        have f7 := blk_frozen hze.out 7
                        have f8 := blk_frozen hze.out 8
                        have f9 := blk_frozen hze.out 9
                        have f10 := blk_frozen hze.out 10
                        have f11 := blk_frozen hze.out 11
                        go_wp2_with fail
                        refine bodyPost_ret (results_ct rfl _ _ w.heap.size 24 zero24 (0, 0) _ rfl (set12 hze.out _ _ _ _ _ _ _ _ _ _ _ _) Try.underlying24 rfl (by kernel_rfl)) rfl ?_
                        refine ⟨⟨.slice none 0 0, rfl, Kd.R_nil _ _ _ _ _⟩, ?_⟩
                        exact below12 (HBWC.out.trans ((HPZ13.out.b.trans (HB15.out.mono hszc)).mono (by omega))) (Nat.le_refl _) _ _ _ _ _ _ _ _ _ _ _ _
                      | true =>
                        go_wp2_with fail
                        go_meet
                        case rel => exact ⟨A15, c15, by rw [HRF.out], ⟨by rw [HRF.out]⟩, ⟨by rw [HRF.out]; exact Kd.R_lower HO15.out hszc⟩, ⟨HPZ13.out.below HB15.out⟩⟩
          case rest =>
            obtain ⟨A8, c8, rfl, hr2, hRf, hPf⟩ := hcut
            generalize hos8 : (refParts s.data.toList).1 = os8 at hRf
            have HOS8 := Aside0.mk hos8
            clear hos8
            have hpk3 : pk = optsMay os8 := by rw [HPK2.out, hr2.out, HOS8.out]; rfl
            have HPK3 := Aside0.mk hpk3
            clear hpk3
            obtain ⟨d0, d1, d2, d3, d4, d5, d6, d7, d8, d9, d10, d11⟩ := box12 hPf.out.p
            have hf11 := blk_frozen hPf.out.p 11
            have hne : some w2.heap.size ≠ (Value.slice A8 os8.length c8).ownBlock := Kd.R_ne hRf.out hPf.out.p (by decide)
            have hps := blk_set hPf.out.p 11 (.slice A8 os8.length c8)
            have hps' : (wc.setCell ⟨w2.heap.size, 11, none⟩ (.slice A8 os8.length c8)).heap[w2.heap.size]? = some (.cells #[.int .i64 (numK s 0), .int .i64 (numK s 1), .int .i64 (numK s 3), .int .i64 (numK s 4), .int .i64 (numK s 5), .int .i64 (numK s 6), .int .i64 (numK s 7), .int .i64 (numK s 8), .int .i64 (numK s 9), .int .i64 (numK s 10), .string (s.extract 28 (28 + n)), .slice A8 os8.length c8] 24 (0, 0)) := hps
            have HPS := Aside0.mk hps'
            have hRs := Kd.R_step (w1 := wc.setCell ⟨w2.heap.size, 11, none⟩ (.slice A8 os8.length c8)) (Kd.R_far1 hRf.out rfl hne) (fun k hk _ => Below.heap_setCell _ _ _ k hk.2)
            have HRS := Aside0.mk hRs
            have hzs := Aside0.mk (blk_far (p := ⟨w2.heap.size, 11, none⟩) hPf.out.z (show w.heap.size ≠ w2.heap.size by omega) (.slice A8 os8.length c8))
            have hbs := Aside0.mk (hPf.out.b.setCell (p := ⟨w2.heap.size, 11, none⟩) (show wd.heap.size ≤ w2.heap.size by omega) (.slice A8 os8.length c8))
            have hrr := Aside0.mk (Kd.R_reads' HRS.out)
            have HRM := Aside0.mk (refMay_fits s n h16n os8)
            clear hne hps hps' hRs
            go_wp2_with fail
            refine (pinfoldref1_PacketMay.calls _ _ _ _ _ _ _ _ _ _ _ A8 c8 os8 (optsMay os8) _ hrr.out.2.2 hrr.out.2.1 HRM.out).mono ?_
            rintro e w16 ⟨rfl, hb16⟩
            have hbb : Below w.heap.size w w16 := HBWC.out.trans ((hbs.out.trans (hb16.mono hbs.out.size)).mono (by omega))
            have HBB := Aside0.mk hbb
            have HP16 := Aside0.mk (heap_below HPS.out hb16)
            have HR16 := Aside0.mk (Kd.R_below HRS.out hb16)
            have HZ16 := Aside0.mk (heap_below hzs.out hb16)
            clear hbb d0 d1 d2 d3 d4 d5 d6 d7 d8 d9 d10 d11 hf11
            cases hom : optsMay os8 with
            | false =>
              have hpf : pk = false := HPK3.out.trans hom
              subst hpf
              clear hom
              have hze := Aside0.mk (HZ16.out)
              obtain ⟨e0, e1, e2, e3, e4, e5, e6, e7, e8, e9, e10, e11⟩ := box12 hze.out
              have f0 := blk_frozen hze.out 0
              have f1 := blk_frozen hze.out 1
              have f2 := blk_frozen hze.out 2
              have f3 := blk_frozen hze.out 3
              have f4 := blk_frozen hze.out 4
              have f5 := blk_frozen hze.out 5
              have f6 := blk_frozen hze.out 6
              have f7 := blk_frozen hze.out 7
              have f8 := blk_frozen hze.out 8
              have f9 := blk_frozen hze.out 9
              have f10 := blk_frozen hze.out 10
              have f11 := blk_frozen hze.out 11
              go_wp2_with fail
              refine bodyPost_ret (results_ct rfl _ _ w.heap.size 24 zero24 (0, 0) _ rfl (set12 hze.out _ _ _ _ _ _ _ _ _ _ _ _) Try.underlying24 rfl (by kernel_rfl)) rfl ?_
              refine ⟨⟨.slice none 0 0, rfl, Kd.R_nil _ _ _ _ _⟩, ?_⟩
              exact below12 (HBB.out) (Nat.le_refl _) _ _ _ _ _ _ _ _ _ _ _ _
            | true =>
              have hpf : pk = true := HPK3.out.trans hom
              subst hpf
              clear hom
              obtain ⟨d0, d1, d2, d3, d4, d5, d6, d7, d8, d9, d10, d11⟩ := box12 HP16.out
              have hze := HZ16
              obtain ⟨e0, e1, e2, e3, e4, e5, e6, e7, e8, e9, e10, e11⟩ := box12 hze.out
              have f0 := blk_frozen hze.out 0
              have f1 := blk_frozen hze.out 1
              have f2 := blk_frozen hze.out 2
              have f3 := blk_frozen hze.out 3
              have f4 := blk_frozen hze.out 4
              have f5 := blk_frozen hze.out 5
              have f6 := blk_frozen hze.out 6
              have f7 := blk_frozen hze.out 7
              have f8 := blk_frozen hze.out 8
              have f9 := blk_frozen hze.out 9
              have f10 := blk_frozen hze.out 10
              have f11 := blk_frozen hze.out 11
              go_wp2_with fail
              refine bodyPost_ret (results_ct rfl _ _ w.heap.size 24 #[.int .i64 (numK s 0), .int .i64 (numK s 1), .int .i64 (numK s 3), .int .i64 (numK s 4), .int .i64 (numK s 5), .int .i64 (numK s 6), .int .i64 (numK s 7), .int .i64 (numK s 8), .int .i64 (numK s 9), .int .i64 (numK s 10), .string (s.extract 28 (28 + n)), .slice A8 os8.length c8] (0, 0) _ rfl (set12 hze.out _ _ _ _ _ _ _ _ _ _ _ _) Try.underlying24 rfl (by kernel_rfl)) rfl ?_
              have hpo : pkOf s (.slice A8 os8.length c8) = .agg #[.int .i64 (numK s 0), .int .i64 (numK s 1), .int .i64 (numK s 3), .int .i64 (numK s 4), .int .i64 (numK s 5), .int .i64 (numK s 6), .int .i64 (numK s 7), .int .i64 (numK s 8), .int .i64 (numK s 9), .int .i64 (numK s 10), .string (s.extract 28 (28 + n)), .slice A8 os8.length c8] := by unfold pkOf; rw [← HEX.out]
              have hpp : (partsP s.data.toList).1 = os8 := ((parts_ref s.data.toList).2 hr2.out).trans HOS8.out
              refine ⟨⟨.slice A8 os8.length c8, ?_, ?_⟩, ?_⟩
              · rw [hpo]; rfl
              · rw [hpp]
                refine Kd.R_mono (Kd.R_lower (Kd.R_move (Kd.R_bound HR16.out) (fun k hk => ?_)) (show w.heap.size ≤ wd.heap.size by omega)) (fun _ _ => trivial)
                obtain ⟨_, hk1, hk2, _⟩ := hk
                exact far12 (by omega) _ _ _ _ _ _ _ _ _ _ _ _
              · exact below12 HBB.out (Nat.le_refl _) _ _ _ _ _ _ _ _ _ _ _ _
      · have hrf : refParts s.data.toList = ([], false) := by rw [HRP.out, if_pos (show er ≠ 0 from he)]
        have hpf : pk = false := by rw [HPK2.out, hrf]; rfl
        subst hpf
        have heb : (er == 0) = false := beq_eq_false_iff_ne.2 he
        have hen : (er != 0) = true := by rw [bne, heb]; rfl
        clear he hrf
        have hze := Aside0.mk (HPZ12.out.z)
        obtain ⟨e0, e1, e2, e3, e4, e5, e6, e7, e8, e9, e10, e11⟩ := box12 hze.out
        have f0 := blk_frozen hze.out 0
        have f1 := blk_frozen hze.out 1
        have f2 := blk_frozen hze.out 2
        have f3 := blk_frozen hze.out 3
        have f4 := blk_frozen hze.out 4
        have f5 := blk_frozen hze.out 5
        have f6 := blk_frozen hze.out 6
        have f7 := blk_frozen hze.out 7
        have f8 := blk_frozen hze.out 8
        have f9 := blk_frozen hze.out 9
        have f10 := blk_frozen hze.out 10
        have f11 := blk_frozen hze.out 11
        go_wp2_with fail
        refine bodyPost_ret (results_ct rfl _ _ w.heap.size 24 zero24 (0, 0) _ rfl (set12 hze.out _ _ _ _ _ _ _ _ _ _ _ _) Try.underlying24 rfl (by kernel_rfl)) rfl ?_
        refine ⟨⟨.slice none 0 0, rfl, Kd.R_nil _ _ _ _ _⟩, ?_⟩
        exact below12 (HBWC.out.trans (HPZ12.out.b.mono (by omega))) (Nat.le_refl _) _ _ _ _ _ _ _ _ _ _ _ _
    | false =>
      have hpf : pk = false := by rw [HPK.out]; show (headOk s && _) = false; rw [hho, Bool.false_and]
      subst hpf
      have hze := Aside0.mk (hres.out)
      obtain ⟨e0, e1, e2, e3, e4, e5, e6, e7, e8, e9, e10, e11⟩ := box12 hze.out
      have f0 := blk_frozen hze.out 0
      have f1 := blk_frozen hze.out 1
      have f2 := blk_frozen hze.out 2
      have f3 := blk_frozen hze.out 3
      have f4 := blk_frozen hze.out 4
      have f5 := blk_frozen hze.out 5
      have f6 := blk_frozen hze.out 6
      have f7 := blk_frozen hze.out 7
      have f8 := blk_frozen hze.out 8
      have f9 := blk_frozen hze.out 9
      have f10 := blk_frozen hze.out 10
      have f11 := blk_frozen hze.out 11
      go_wp2_with fail
      refine bodyPost_ret (results_ct rfl _ _ w.heap.size 24 zero24 (0, 0) _ rfl (set12 hze.out _ _ _ _ _ _ _ _ _ _ _ _) Try.underlying24 rfl (by kernel_rfl)) rfl ?_
      refine ⟨⟨.slice none 0 0, rfl, Kd.R_nil _ _ _ _ _⟩, ?_⟩
      exact below12 ((below_alloc (Below.refl w.heap.size w) _).trans (HBX.out.mono (by omega))) (Nat.le_refl _) _ _ _ _ _ _ _ _ _ _ _ _
end Go.Proofs.Ytjiojpconkhdmaa.Fs

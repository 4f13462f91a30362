import Derived.Test.YtjiojpconkhdmaaCM10
import Derived.Test.YtjiojpconkhdmaaCGParts
namespace Go.Proofs.Ytjiojpconkhdmaa.Fs
open Go.RowKit Go.Maps Go.Proofs.YtjiojpconkhdmaaW.PrintWords Go.Proofs.YtjiojpconkhdmaaW.PrintLast Go.Proofs.YtjiojpconkhdmaaW.PrintMore
set_option linter.unusedVariables false
set_option linter.unusedSimpArgs false
theorem get_arith (a k N : Nat) (hk : k = 1 ∨ k = 2 ∨ k = 4) (ha : a + k ≤ N) (hN : N ≤ 1000000000000) : wrap64 ((a : Int) + (k : Int)) = ((a + k : Nat) : Int) ∧ ¬ ((a : Int) > wrap64 ((N : Int) - (k : Int))) := by
  unfold wrap64
  constructor <;> omega
/-- The number of so many bytes at a place. -/
def numAt (s : ByteArray) (a k : Nat) : Int := numFrom 0 (bytesOf (s.extract a (a + k)))
theorem be_Get_eq (s : ByteArray) (a k : Nat) (hk : k = 1 ∨ k = 2 ∨ k = 4) (ha : a + k ≤ s.size) (hN : s.size ≤ 1000000000000) : be_Get.f 1 s (a : Int) (k : Int) = some (numAt s a k, 0) := by
  obtain ⟨w1, w2⟩ := get_arith a k s.size hk ha hN
  have hw : be_Wide.f (k : Int) = some true := by rcases hk with rfl | rfl | rfl <;> rfl
  have hd : decide ((a : Int) < 0) = false := decide_eq_false (by omega)
  have hn : be_Number.f (s.extract a (a + k)) = some (numAt s a k) := by
    unfold be_Number.f numAt
    rw [if_pos (by rw [ByteArray.size_extract]; omega)]
  unfold be_Get.f
  rw [hw, Option.bind_some, if_pos rfl, hd, be_Get.j0, if_neg (by simp), if_neg w2, w1, if_pos (Int.natCast_nonneg a), if_pos (Int.ofNat_le.2 (Nat.le_add_right a k)), if_pos (Int.ofNat_le.2 ha), Int.toNat_natCast, Int.toNat_natCast, hn, Option.bind_some]
/-- Where the k-th number of a packet stands, and how many bytes it has. -/
def offK (k : Nat) : Nat := [0, 1, 2, 3, 4, 8, 10, 12, 16, 20, 24, 28].getD k 0
def widK (k : Nat) : Nat := [1, 1, 1, 1, 4, 2, 2, 4, 4, 4, 4].getD k 0
def numK (s : ByteArray) (k : Nat) : Int := numAt s (offK k) (widK k)
theorem offK_step (k : Nat) (h : k < 11) : offK k + widK k = offK (k + 1) ∧ offK (k + 1) ≤ 28 ∧ (widK k = 1 ∨ widK k = 2 ∨ widK k = 4) := by
  have : k = 0 ∨ k = 1 ∨ k = 2 ∨ k = 3 ∨ k = 4 ∨ k = 5 ∨ k = 6 ∨ k = 7 ∨ k = 8 ∨ k = 9 ∨ k = 10 := by omega
  rcases this with rfl | rfl | rfl | rfl | rfl | rfl | rfl | rfl | rfl | rfl | rfl <;> decide
theorem taker_k (s : ByteArray) (k : Nat) (h : k < 11) (h28 : 28 ≤ s.size) (hN : s.size ≤ 1000000000000) : rr_Taker_Num.f s (offK k : Int) false (widK k : Int) = some (numK s k, s, (offK (k + 1) : Int), false) := by
  obtain ⟨h1, h2, h3⟩ := offK_step k h
  have hg := be_Get_eq s (offK k) (widK k) h3 (by omega) hN
  have hw := (get_arith (offK k) (widK k) s.size h3 (by omega) hN).1
  unfold rr_Taker_Num.f
  rw [hg, Option.bind_some, hw, h1]
  rfl
/-- The k-th number, when so many have been read. -/
def vN (N : Nat → Int) (k j : Nat) : Int := if j < k then N j else 0
def pkN (N : Nat → Int) (k : Nat) : Array Value := pkCells (vN N k 0) (vN N k 1) (vN N k 3) (vN N k 4) (vN N k 5) (vN N k 6) (vN N k 7) (vN N k 8) (vN N k 9) (vN N k 10) ⟨#[]⟩ (.slice none 0 0)
def packN (gp gl : Nat) (N : Nat → Int) (k : Nat) : List (Addr × Int × Int) := packFs gp gl (vN N k 0) (vN N k 1) (vN N k 2) (vN N k 3) (vN N k 4) (vN N k 5) (vN N k 6) (vN N k 7) (vN N k 8) (vN N k 9) (vN N k 10)
theorem PB.at_ {w : World} {gp gl gs : Nat} {N : Nat → Int} {k : Nat} (h : PB w gp gl gs (pkN N k) (vN N k 2)) : FieldsAt w gs (packN gp gl N k) := packFs_at h.p h.l h.s
theorem PB.set_p {w : World} {gp gl gs : Nat} {pc : Array Value} {n : Int} (h : PB w gp gl gs pc n) (j : Nat) (v : Value) (h1 : gl ≠ gp) (h2 : gs ≠ gp) : PB (w.setCell ⟨gp, j, none⟩ v) gp gl gs (pc.setIfInBounds j v) n :=
  ⟨blk_set h.p j v, blk_far h.l h1 v, blk_far h.s h2 v⟩
theorem PB.set_l {w : World} {gp gl gs : Nat} {pc : Array Value} {n : Int} (h : PB w gp gl gs pc n) (x : Int) (h1 : gp ≠ gl) (h2 : gs ≠ gl) : PB (w.setCell ⟨gl, 0, none⟩ (.int .i64 x)) gp gl gs pc x :=
  ⟨blk_far h.p h1 _, blk_set h.l 0 _, blk_far h.s h2 _⟩
theorem packN_at (gp gl : Nat) (N : Nat → Int) (k : Nat) (h : k < 11) : ∃ t, (packN gp gl N k)[k]? = some t ∧ t.2.2 = (widK k : Int) ∧ (t.1.block = gp ∨ t.1.block = gl) ∧ t.1.spot = none ∧
    (∀ (w : World) (gs : Nat), PB w gp gl gs (pkN N k) (vN N k 2) → gl ≠ gp → gs ≠ gp → gs ≠ gl → PB (w.setCell t.1 (.int .i64 (N k))) gp gl gs (pkN N (k + 1)) (vN N (k + 1) 2)) := by
  have : k = 0 ∨ k = 1 ∨ k = 2 ∨ k = 3 ∨ k = 4 ∨ k = 5 ∨ k = 6 ∨ k = 7 ∨ k = 8 ∨ k = 9 ∨ k = 10 := by omega
  rcases this with rfl | rfl | rfl | rfl | rfl | rfl | rfl | rfl | rfl | rfl | rfl
  · exact ⟨_, rfl, rfl, .inl rfl, rfl, fun w gs hp h1 h2 h3 => hp.set_p 0 (.int .i64 (N 0)) h1 h2⟩
  · exact ⟨_, rfl, rfl, .inl rfl, rfl, fun w gs hp h1 h2 h3 => hp.set_p 1 (.int .i64 (N 1)) h1 h2⟩
  · exact ⟨_, rfl, rfl, .inr rfl, rfl, fun w gs hp h1 h2 h3 => hp.set_l (N 2) h1.symm h3⟩
  · exact ⟨_, rfl, rfl, .inl rfl, rfl, fun w gs hp h1 h2 h3 => hp.set_p 2 (.int .i64 (N 3)) h1 h2⟩
  · exact ⟨_, rfl, rfl, .inl rfl, rfl, fun w gs hp h1 h2 h3 => hp.set_p 3 (.int .i64 (N 4)) h1 h2⟩
  · exact ⟨_, rfl, rfl, .inl rfl, rfl, fun w gs hp h1 h2 h3 => hp.set_p 4 (.int .i64 (N 5)) h1 h2⟩
  · exact ⟨_, rfl, rfl, .inl rfl, rfl, fun w gs hp h1 h2 h3 => hp.set_p 5 (.int .i64 (N 6)) h1 h2⟩
  · exact ⟨_, rfl, rfl, .inl rfl, rfl, fun w gs hp h1 h2 h3 => hp.set_p 6 (.int .i64 (N 7)) h1 h2⟩
  · exact ⟨_, rfl, rfl, .inl rfl, rfl, fun w gs hp h1 h2 h3 => hp.set_p 7 (.int .i64 (N 8)) h1 h2⟩
  · exact ⟨_, rfl, rfl, .inl rfl, rfl, fun w gs hp h1 h2 h3 => hp.set_p 8 (.int .i64 (N 9)) h1 h2⟩
  · exact ⟨_, rfl, rfl, .inl rfl, rfl, fun w gs hp h1 h2 h3 => hp.set_p 9 (.int .i64 (N 10)) h1 h2⟩
end Go.Proofs.Ytjiojpconkhdmaa.Fs

namespace Go.Proofs.Ytjiojpconkhdmaa.Fs
open Go.RowKit Go.Maps Go.Proofs.YtjiojpconkhdmaaW.PrintWords Go.Proofs.YtjiojpconkhdmaaW.PrintLast Go.Proofs.YtjiojpconkhdmaaW.PrintMore
set_option linter.unusedVariables false
set_option linter.unusedSimpArgs false
set_option maxRecDepth 10000 in
theorem or_byte : ∀ b : Fin 256, Go.bits .or .i64 (wrap64 (0 * 256)) (wrap64 (b.val : Int)) = (b.val : Int) := by decide +kernel
theorem bytesOf_one (s : ByteArray) (l : List UInt8) (hs : s.data.toList = l) (a : Nat) (h : a < l.length) : bytesOf (s.extract a (a + 1)) = [((l[a]'h).toNat : Int)] := by
  unfold bytesOf
  rw [ext_of hs, List.take_succ_eq_append_getElem h, List.drop_append_of_le_length (by rw [List.length_take]; omega), List.drop_take, Nat.sub_self]
  simp
theorem numAt_one (s : ByteArray) (l : List UInt8) (hs : s.data.toList = l) (a : Nat) (h : a < l.length) : numAt s a 1 = ((l[a]'h).toNat : Int) := by
  unfold numAt
  rw [bytesOf_one s l hs a h]
  exact or_byte ⟨(l[a]'h).toNat, (l[a]'h).toNat_lt⟩
theorem numK2 (s : ByteArray) (h : 28 ≤ s.size) : ∃ n : Nat, n < 256 ∧ numK s 2 = (n : Int) := by
  have hl : 2 < s.data.toList.length := by rw [data_length]; omega
  exact ⟨_, (s.data.toList[2]'hl).toNat_lt, numAt_one s _ rfl 2 hl⟩
theorem some_eq (s : ByteArray) (n : Nat) (hn : n ≤ 16) (h : 240 ≤ s.size) (hN : s.size ≤ 1000000000000) : rr_Taker_Some.f s (offK 11 : Int) false (n : Int) = some (s.extract 28 (28 + n), s, ((28 + n : Nat) : Int), false) := by
  have e : (offK 11 : Int) = 28 := rfl
  have w1 : wrap64 ((s.size : Int) - 28) = (s.size : Int) - 28 := by unfold wrap64; omega
  have w2 : wrap64 (28 + (n : Int)) = ((28 + n : Nat) : Int) := by unfold wrap64; omega
  have w3 : wrap64 (((28 + n : Nat) : Int) - (n : Int)) = 28 := by unfold wrap64; omega
  unfold rr_Taker_Some.f
  rw [e, if_neg (by simp), w1, w2, w3]
  clear w1 w2 w3 e
  rw [if_neg (by omega), if_pos (by omega), if_pos (by omega), if_pos (by omega)]
  rfl
end Go.Proofs.Ytjiojpconkhdmaa.Fs

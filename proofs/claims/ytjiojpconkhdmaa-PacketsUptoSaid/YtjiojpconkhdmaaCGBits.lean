import Derived.Test.YtjiojpconkhdmaaCM6
import Derived.Laws.BitsAllLaws
namespace Go.Proofs.Ytjiojpconkhdmaa.Fs
open Go.RowKit Go.Proofs.YtjiojpconkhdmaaW.PrintWords Go.Proofs.YtjiojpconkhdmaaW.PrintLast Go.Proofs.YtjiojpconkhdmaaW.PrintMore
set_option linter.unusedVariables false
set_option linter.unusedSimpArgs false
theorem i64_or_nat (a b : Nat) (ha : a < 9223372036854775808) (hb : b < 9223372036854775808) : Go.bits .or .i64 (a : Int) (b : Int) = ((a ||| b : Nat) : Int) := by
  have hx : a ||| b < 2 ^ 63 := Nat.or_lt_two_pow (by omega) (by omega)
  show IntKind.i64.wrap ((BitVec.ofInt 64 (a : Int) ||| BitVec.ofInt 64 (b : Int)).toNat : Int) = _
  rw [BitVec.toNat_or, ofInt_u64 a (by omega), ofInt_u64 b (by omega), IntKind.wrap_i64]
  omega
theorem i64_and_nat (a b : Nat) (ha : a < 9223372036854775808) (hb : b < 9223372036854775808) : Go.bits .and .i64 (a : Int) (b : Int) = ((a &&& b : Nat) : Int) := by
  have hx : a &&& b < 2 ^ 63 := Nat.and_lt_two_pow _ (by omega)
  show IntKind.i64.wrap ((BitVec.ofInt 64 (a : Int) &&& BitVec.ofInt 64 (b : Int)).toNat : Int) = _
  rw [BitVec.toNat_and, ofInt_u64 a (by omega), ofInt_u64 b (by omega), IntKind.wrap_i64]
  omega
theorem join_arith (x b : Nat) (hx : x < 281474976710656) (hb : b < 256) : wrap64 ((x : Int) * 256) = ((x * 256 : Nat) : Int) ∧ wrap64 (b : Int) = (b : Int) ∧ x * 256 < 9223372036854775808 ∧ b < 9223372036854775808 ∧ (x * 256) % 2 ^ 8 = 0 := by
  unfold wrap64
  refine ⟨?_, ?_, ?_, ?_, ?_⟩ <;> omega
/-- One byte more, behind a number. -/
theorem or_join (x b : Nat) (hx : x < 281474976710656) (hb : b < 256) : Go.bits .or .i64 (wrap64 ((x : Int) * 256)) (wrap64 (b : Int)) = ((x * 256 + b : Nat) : Int) := by
  obtain ⟨h1, h2, h3, h4, h5⟩ := join_arith x b hx hb
  rw [h1, h2, i64_or_nat _ _ h3 h4, nat_join 8 _ _ h5 (by omega)]
/-- The number of some bytes. -/
def numV (x : Nat) (l : List UInt8) : Nat := l.foldl (fun y b => y * 256 + b.toNat) x
theorem numV_lt (l : List UInt8) : ∀ (x m : Nat), x < m → numV x l < m * 256 ^ l.length := by
  induction l with
  | nil => intro x m h; simpa [numV] using h
  | cons b r ih =>
    intro x m h
    have := ih (x * 256 + b.toNat) (m * 256) (by have := b.toNat_lt; omega)
    simp only [numV, List.foldl_cons, List.length_cons] at *
    rw [Nat.pow_succ, Nat.mul_comm (256 ^ r.length) 256, ← Nat.mul_assoc]
    exact this
theorem numFrom_V (l : List UInt8) : ∀ (x n : Nat), l.length ≤ n → n ≤ 6 → x < 256 ^ (6 - n) → numFrom (x : Int) (l.map fun b => (b.toNat : Int)) = (numV x l : Int) := by
  induction l with
  | nil => intro x n _ _ _; rfl
  | cons b r ih =>
    intro x n h1 h2 h3
    have hb := b.toNat_lt
    obtain ⟨m, rfl⟩ : ∃ m, n = m + 1 := ⟨n - 1, by simp at h1; omega⟩
    have hx : x < 281474976710656 := Nat.lt_of_lt_of_le h3 (Nat.le_trans (Nat.pow_le_pow_right (by decide) (show 6 - (m + 1) ≤ 6 by omega)) (by decide))
    have hs : x * 256 + b.toNat < 256 ^ (6 - m) := by
      rw [show 6 - m = (6 - (m + 1)) + 1 by omega, Nat.pow_succ]
      generalize 256 ^ (6 - (m + 1)) = q at h3
      omega
    simp only [List.map_cons, numFrom]
    rw [or_join x _ hx hb, ih _ m (by simpa using h1) (by omega) hs]
    rfl
theorem numAt_V (s : ByteArray) (l : List UInt8) (hs : s.data.toList = l) (a k : Nat) (hk : k ≤ 6) : numAt s a k = (numV 0 ((l.take (a + k)).drop a) : Int) := by
  unfold numAt bytesOf
  rw [ext_of hs]
  exact numFrom_V _ 0 k (by rw [List.length_drop, List.length_take]; omega) hk (Nat.pos_of_ne_zero (by simp))
theorem numV_bound (l : List UInt8) (n : Nat) (h : l.length ≤ n) : numV 0 l < 256 ^ n := by
  have h1 := numV_lt l 0 1 (by omega)
  rw [Nat.one_mul] at h1
  exact Nat.lt_of_lt_of_le h1 (Nat.pow_le_pow_right (by decide) h)
theorem numAt_bound (s : ByteArray) (a k : Nat) (hk : k ≤ 6) : 0 ≤ numAt s a k ∧ numAt s a k < (256 ^ k : Nat) := by
  rw [numAt_V s _ rfl a k hk]
  have := numV_bound ((s.data.toList.take (a + k)).drop a) k (by rw [List.length_drop, List.length_take]; omega)
  omega
theorem numK_fits (s : ByteArray) (k : Nat) (h : k < 11) : 0 ≤ numK s k ∧ numK s k < (256 ^ widK k : Nat) := by
  obtain ⟨_, _, h3⟩ := offK_step k h
  exact numAt_bound s _ _ (by omega)
end Go.Proofs.Ytjiojpconkhdmaa.Fs

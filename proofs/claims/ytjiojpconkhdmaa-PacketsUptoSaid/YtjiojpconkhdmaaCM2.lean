import Derived.Test.YtjiojpconkhdmaaCShelf
import Derived.Shelf.Strings.BuilderK
import Derived.Test.YtjiojpconkhdmaaCM1
import Derived.Lib.Hide
import Derived.Outline
namespace Go.Proofs
open Go.Shelf
def Try.bren : Go.Shelf.Ren := ⟨fun | 165 => 80 | 166 => 35 | 167 => 76 | 169 => 39 | 170 => 38 | 240 => 77 | 241 => 115 | 276 => 111 | 277 => 131 | n => n, fun | 31 => 177 | 9 => 9 | 3 => 3 | 4 => 4 | 0 => 0 | 20 => 20 | 72 => 71 | 76 => 80 | 70 => 69 | 37 => 43 | 75 => 79 | 127 => 140 | 164 => 179 | 5 => 5 | 80 => 85 | n => n, fun | n => n⟩
theorem Try.bextra : Builder.Extra Try.prog Try.bren := {
  sizeBuilder := by kernel_rfl
  liesBuilder := by kernel_rfl
  t5 := Try.underlying5
  a5 := Try.isAgg5
  z5 := Try.sizeOf5
  v5 := Try.zeroValue5
  infoByte := by kernel_rfl
  cellsByte := by kernel_rfl
  sizeByte := by kernel_rfl
  neB5 := by decide }
theorem Try.blays240 : Go.Proofs.Lays.n240 Try.prog Try.bren := {
  mixed := by kernel_rfl
  f240 := Try.func77.trans (congrArg some (by kernel_rfl))
  f276 := Try.func111.trans (congrArg some (by kernel_rfl))
  t0 := Try.underlying0
  a0 := Try.isAgg0
  z0 := Try.sizeOf0
  v0 := Try.zeroValue0
  t4 := Try.underlying4
  a4 := Try.isAgg4
  z4 := Try.sizeOf4
  v4 := Try.zeroValue4
  t9 := Try.underlying9
  a9 := Try.isAgg9
  z9 := Try.sizeOf9
  v9 := Try.zeroValue9
  t20 := Try.underlying20
  a20 := Try.isAgg20
  z20 := Try.sizeOf20
  v20 := Try.zeroValue20
  t70 := Try.underlying69
  a70 := Try.isAgg69
  z70 := Try.sizeOf69
  v70 := Try.zeroValue69
  t72 := Try.underlying71
  a72 := Try.isAgg71
  z72 := Try.sizeOf71
  v72 := Try.zeroValue71
  t164 := Try.underlying179
  a164 := Try.isAgg179
  z164 := Try.sizeOf179
  v164 := Try.zeroValue179
}
theorem Try.blays167 : Go.Proofs.Lays.n167 Try.prog Try.bren := {
  mixed := by kernel_rfl
  f167 := Try.func76.trans (congrArg some (by kernel_rfl))
  f240 := Try.func77.trans (congrArg some (by kernel_rfl))
  f276 := Try.func111.trans (congrArg some (by kernel_rfl))
  t0 := Try.underlying0
  a0 := Try.isAgg0
  z0 := Try.sizeOf0
  v0 := Try.zeroValue0
  t4 := Try.underlying4
  a4 := Try.isAgg4
  z4 := Try.sizeOf4
  v4 := Try.zeroValue4
  t5 := Try.underlying5
  a5 := Try.isAgg5
  z5 := Try.sizeOf5
  v5 := Try.zeroValue5
  t9 := Try.underlying9
  a9 := Try.isAgg9
  z9 := Try.sizeOf9
  v9 := Try.zeroValue9
  t20 := Try.underlying20
  a20 := Try.isAgg20
  z20 := Try.sizeOf20
  v20 := Try.zeroValue20
  t37 := Try.underlying43
  a37 := Try.isAgg43
  z37 := Try.sizeOf43
  v37 := Try.zeroValue43
  t70 := Try.underlying69
  a70 := Try.isAgg69
  z70 := Try.sizeOf69
  v70 := Try.zeroValue69
  t72 := Try.underlying71
  a72 := Try.isAgg71
  z72 := Try.sizeOf71
  v72 := Try.zeroValue71
  t75 := Try.underlying79
  a75 := Try.isAgg79
  z75 := Try.sizeOf79
  v75 := Try.zeroValue79
  t164 := Try.underlying179
  a164 := Try.isAgg179
  z164 := Try.sizeOf179
  v164 := Try.zeroValue179
}
theorem Try.blays166 : Go.Proofs.Lays.n166 Try.prog Try.bren := {
  mixed := by kernel_rfl
  f166 := Try.func35.trans (congrArg some (by kernel_rfl))
  f240 := Try.func77.trans (congrArg some (by kernel_rfl))
  f276 := Try.func111.trans (congrArg some (by kernel_rfl))
  t0 := Try.underlying0
  a0 := Try.isAgg0
  z0 := Try.sizeOf0
  v0 := Try.zeroValue0
  t3 := Try.underlying3
  a3 := Try.isAgg3
  z3 := Try.sizeOf3
  v3 := Try.zeroValue3
  t4 := Try.underlying4
  a4 := Try.isAgg4
  z4 := Try.sizeOf4
  v4 := Try.zeroValue4
  t9 := Try.underlying9
  a9 := Try.isAgg9
  z9 := Try.sizeOf9
  v9 := Try.zeroValue9
  t20 := Try.underlying20
  a20 := Try.isAgg20
  z20 := Try.sizeOf20
  v20 := Try.zeroValue20
  t37 := Try.underlying43
  a37 := Try.isAgg43
  z37 := Try.sizeOf43
  v37 := Try.zeroValue43
  t70 := Try.underlying69
  a70 := Try.isAgg69
  z70 := Try.sizeOf69
  v70 := Try.zeroValue69
  t72 := Try.underlying71
  a72 := Try.isAgg71
  z72 := Try.sizeOf71
  v72 := Try.zeroValue71
  t75 := Try.underlying79
  a75 := Try.isAgg79
  z75 := Try.sizeOf79
  v75 := Try.zeroValue79
  t164 := Try.underlying179
  a164 := Try.isAgg179
  z164 := Try.sizeOf179
  v164 := Try.zeroValue179
}
open Go.RowKit in
theorem Try.wcopyCheck (B b : Nat) (bs : List Value) (w : World) (h : Lib.IsBuilderF 71 5 B b bs w) :
    Calls Try.prog 77 #[.pointer (some ⟨b, 0, none⟩)] w fun e w' => e = .returned (.tuple #[]) ∧ (Lib.BuilderAtF 71 5 B b (.pointer (some ⟨b, 0, none⟩)) bs w' ∧ Below B w w' ∧ Lib.OthersKept 5 (some b) w w') := Any.Builder_copyCheck_k Try.blays240 Try.bextra.toX72 B b bs w h
open Go.RowKit in
theorem Try.wWriteByte (B b : Nat) (bs : List Value) (c : Int) (w : World) (h : Lib.IsBuilderF 71 5 B b bs w) (hlen : bs.length + 1 ≤ 140737488355328) (hBw : B ≤ w.heap.size) :
    Calls Try.prog 76 #[.pointer (some ⟨b, 0, none⟩), .int .u8 c] w fun e w' => e = .returned .nilIface ∧ (Lib.BuilderAtF 71 5 B b (.pointer (some ⟨b, 0, none⟩)) (bs ++ [.int .u8 c]) w' ∧ Below B w w' ∧ Lib.OthersKept 5 (some b) w w') := Any.Builder_WriteByte_k Try.blays167 Try.bextra B b bs c w h hlen hBw
open Go.RowKit in
theorem Try.wWriteString (B b : Nat) (bs : List Value) (s : ByteArray) (w : World) (h : Lib.IsBuilderF 71 5 B b bs w) (hlen : bs.length + s.size ≤ 140737488355328) (hBw : B ≤ w.heap.size) :
    Calls Try.prog 35 #[.pointer (some ⟨b, 0, none⟩), .string s] w fun e w' => e = .returned (.tuple #[.int .i64 s.size, .nilIface]) ∧ (Lib.BuilderAtF 71 5 B b (.pointer (some ⟨b, 0, none⟩)) (bs ++ Lib.strCells s) w' ∧ Below B w w' ∧ Lib.OthersKept 5 (some b) w w') := Any.Builder_WriteString_k Try.blays166 Try.bextra B b bs s w h hlen hBw
end Go.Proofs

namespace Go.Proofs.Ytjiojpconkhdmaa.Fs
open Go.RowKit Go.Proofs.YtjiojpconkhdmaaW.PrintWords Go.Proofs.YtjiojpconkhdmaaW.PrintLast Go.Proofs.YtjiojpconkhdmaaW.PrintMore
set_option linter.unusedVariables false
set_option linter.unusedSimpArgs false

/-- Block b is a strings.Builder of the call's own that holds these bytes. -/
def Bld (B b : Nat) (l : List UInt8) (w : World) : Prop := Lib.IsBuilderF 71 5 B b (Lib.byteCells l) w
theorem ownF_lt {w : World} {base : Nat} {e : TypeId} {size n : Nat} {v : Value} {xs : List Value} (h : w.ownsRowF base e size v n xs) (k : Nat) (hk : v.ownBlock = some k) : k < w.heap.size := by
  rcases h.2 with ⟨rfl, _⟩ | ⟨g, cap, cur, fz, rfl, _, hh, _⟩
  · simp [Value.ownBlock] at hk
  · have : g = k := by simpa [Value.ownBlock] using hk
    subst this
    exact (Array.getElem?_eq_some_iff.1 hh).1
theorem BuilderAtF_below {B b : Nat} {p : Value} {bs : List Value} {w w' : World} (h : Lib.BuilderAtF 71 5 B b p bs w) (hb : Below w.heap.size w w') : Lib.BuilderAtF 71 5 B b p bs w' := by
  have hlt := h.lt
  obtain ⟨hB, v, hbk, hown, hne⟩ := h
  exact ⟨hB, v, (hb.block b hlt).trans hbk, hown.kept (grown_of_below hb none) (by cases hv : v.ownBlock <;> simp), hne⟩
theorem Bld.below {B b : Nat} {l : List UInt8} {w w' : World} (h : Bld B b l w) (hb : Below w.heap.size w w') : Bld B b l w' :=
  h.elim (fun x => .inl (BuilderAtF_below x hb)) (fun x => .inr (BuilderAtF_below x hb))
theorem Bld.alloc {B b : Nat} {l : List UInt8} {w : World} (h : Bld B b l w) (o : Obj) : Bld B b l (w.alloc o) := Lib.IsBuilderF.alloc h o
theorem Bld.drewN {B b : Nat} {l : List UInt8} {w : World} (h : Bld B b l w) (n : Nat) : Bld B b l (w.drewN n) := h.below (pw_below_drewN (Below.refl _ _) n)
theorem Bld.drew {B b : Nat} {l : List UInt8} {w : World} (h : Bld B b l w) : Bld B b l w.drew := h
theorem Bld.fresh (w : World) : Bld w.heap.size w.heap.size [] (w.alloc (.cells #[.pointer none, .slice none 0 0] 71)) := Lib.IsBuilderF.of (Lib.fresh_isBuilder 71 5 w)
theorem Bld.lt {B b : Nat} {l : List UInt8} {w : World} (h : Bld B b l w) : b < w.heap.size := h.elim (fun x => x.lt) (fun x => x.lt)
theorem Bld.le {B b : Nat} {l : List UInt8} {w : World} (h : Bld B b l w) : B ≤ b := h.elim (fun x => x.1) (fun x => x.1)

theorem bld_ws (B b : Nat) (l : List UInt8) (s : ByteArray) (w : World) (h : Bld B b l w) (hlen : l.length + s.size ≤ 140737488355328) :
    Calls Try.prog 35 #[.pointer (some ⟨b, 0, none⟩), .string s] w fun e w' => e = .returned (.tuple #[.int .i64 s.size, .nilIface]) ∧ Bld B b (l ++ s.data.toList) w' ∧ Below B w w' ∧ Lib.OthersKept 5 (some b) w w' := by
  refine (Try.wWriteString B b (Lib.byteCells l) s w h (by rw [Lib.byteCells_length]; exact hlen) (Nat.le_trans h.le (Nat.le_of_lt h.lt))).mono ?_
  rintro e w' ⟨rfl, h1, h2, h3⟩
  exact ⟨rfl, .inr (by rw [Lib.byteCells_append, ← Lib.strCells_eq]; exact h1), h2, h3⟩
theorem bld_wb (B b : Nat) (l : List UInt8) (c : UInt8) (w : World) (h : Bld B b l w) (hlen : l.length + 1 ≤ 140737488355328) :
    Calls Try.prog 76 #[.pointer (some ⟨b, 0, none⟩), .int .u8 (c.toNat : Int)] w fun e w' => e = .returned .nilIface ∧ Bld B b (l ++ [c]) w' ∧ Below B w w' ∧ Lib.OthersKept 5 (some b) w w' := by
  refine (Try.wWriteByte B b (Lib.byteCells l) _ w h (by rw [Lib.byteCells_length]; exact hlen) (Nat.le_trans h.le (Nat.le_of_lt h.lt))).mono ?_
  rintro e w' ⟨rfl, h1, h2, h3⟩
  exact ⟨rfl, .inr (by rw [Lib.byteCells_append]; exact h1), h2, h3⟩
theorem bld_len (B b : Nat) (l : List UInt8) (w : World) (h : Bld B b l w) :
    Calls Try.prog 38 #[.pointer (some ⟨b, 0, none⟩)] w fun e w' => e = .returned (.int .i64 l.length) ∧ w = w' := by
  refine (Try.Builder_Len_f B b (Lib.byteCells l) w h).mono ?_
  rintro e w' ⟨rfl, h1⟩
  exact ⟨by rw [Lib.byteCells_length], h1.symm⟩
theorem bld_string (B b : Nat) (l : List UInt8) (w : World) (h : Bld B b l w) :
    Calls Try.prog 39 #[.pointer (some ⟨b, 0, none⟩)] w fun e w' => e = .returned (.string ⟨l.toArray⟩) ∧ Bld B b l w' ∧ Below B w w' ∧ Lib.OthersKept 5 (some b) w w' := by
  refine (Try.Builder_String_any_k B b l w h (Nat.le_trans h.le (Nat.le_of_lt h.lt))).mono ?_
  rintro e w' ⟨rfl, h1, h2, h3⟩
  exact ⟨rfl, h1, h2, h3⟩
/-- A cell of another block, that is no row of bytes, stays. -/
theorem others_cell {b : Nat} {w w' : World} (h : Lib.OthersKept 5 (some b) w w') {k : Nat} {cs : Array Value} {t : TypeId} {fr : Nat × Nat} (hk : w.heap[k]? = some (.cells cs t fr)) (ht : t ≠ 5) (hne : k ≠ b) : w'.heap[k]? = some (.cells cs t fr) :=
  h k _ hk (by simpa using hne) (fun c fz e => ht (by injection e))
/-- A whole number in so many bytes, the highest one first. -/
def beB (k : Nat) (x : Int) : List UInt8 := (List.range k).map fun i => UInt8.ofNat (x / 256 ^ (k - 1 - i) % 256).toNat
def be1 (x : Int) : ByteArray := ⟨#[UInt8.ofNat (x % 256).toNat]⟩
def be2 (x : Int) : ByteArray := ⟨#[UInt8.ofNat (x / 256 % 256).toNat, UInt8.ofNat (x % 256).toNat]⟩
def be4 (x : Int) : ByteArray := ⟨#[UInt8.ofNat (x / 256 / 256 / 256 % 256).toNat, UInt8.ofNat (x / 256 / 256 % 256).toNat, UInt8.ofNat (x / 256 % 256).toNat, UInt8.ofNat (x % 256).toNat]⟩
theorem be_Bytes_1 (x : Int) : be_Bytes.f 6 x 1 = some (be1 x) := by
  simp [be_Bytes.f, be_Bytes.l0, wrap64, List.replicate, strOfNums, be1]
theorem be_Bytes_2 (x : Int) : be_Bytes.f 6 x 2 = some (be2 x) := by
  simp [be_Bytes.f, be_Bytes.l0, wrap64, List.replicate, strOfNums, be2]
theorem be_Bytes_4 (x : Int) : be_Bytes.f 6 x 4 = some (be4 x) := by
  simp [be_Bytes.f, be_Bytes.l0, wrap64, List.replicate, strOfNums, be4]
theorem bytes1 (x : Int) (w : World) : Calls Try.prog 36 #[.int .i64 x, .int .i64 1] w fun e w' => e = .returned (.string (be1 x)) ∧ Below w.heap.size w w' := be_Bytes.calls 6 x 1 _ w (be_Bytes_1 x)
theorem bytes2 (x : Int) (w : World) : Calls Try.prog 36 #[.int .i64 x, .int .i64 2] w fun e w' => e = .returned (.string (be2 x)) ∧ Below w.heap.size w w' := be_Bytes.calls 6 x 2 _ w (be_Bytes_2 x)
theorem bytes4 (x : Int) (w : World) : Calls Try.prog 36 #[.int .i64 x, .int .i64 4] w fun e w' => e = .returned (.string (be4 x)) ∧ Below w.heap.size w w' := be_Bytes.calls 6 x 4 _ w (be_Bytes_4 x)
end Go.Proofs.Ytjiojpconkhdmaa.Fs

/- strings.Builder.WriteByte at this dump; a builder of one's own, in plain words. -/
import Derived.Test.YtfobbocaodppeaaBuilder
import Derived.Test.YtfobbocaodppeaaOpsPlain
set_option linter.unusedSimpArgs false
set_option linter.unusedVariables false
namespace Go.Proofs.Ytfobbocaodppeaa
open Go.Shelf Go.RowKit
set_option maxRecDepth 100000
namespace Bld
def ren2 : Go.Shelf.Ren := ⟨fun | 166 => 17 | 167 => 16 | 169 => 18 | 240 => 30 | 276 => 53 | n => n, fun | 0 => 0 | 3 => 3 | 4 => 4 | 5 => 5 | 9 => 9 | 20 => 20 | 37 => 34 | 70 => 43 | 72 => 45 | 75 => 48 | 80 => 52 | 127 => 70 | 164 => 96 | n => n, fun | n => n⟩
theorem lays167 : Go.Proofs.Lays.n167 Try.prog ren2 := {
  mixed := by kernel_rfl
  f167 := Try.func16.trans (congrArg some (by kernel_rfl))
  f240 := Try.func30.trans (congrArg some (by kernel_rfl))
  f276 := Try.func53.trans (congrArg some (by kernel_rfl))
  t0 := Try.underlying0
  a0 := Try.isAgg0
  z0 := Try.sizeOf0
  v0 := Try.zeroValue0
  t4 := Try.underlying4
  a4 := Try.isAgg4
  z4 := Try.sizeOf4
  v4 := Try.zeroValue4
  t5 := Try.underlying5
  a5 := Try.isAgg5
  z5 := Try.sizeOf5
  v5 := Try.zeroValue5
  t9 := Try.underlying9
  a9 := Try.isAgg9
  z9 := Try.sizeOf9
  v9 := Try.zeroValue9
  t20 := Try.underlying20
  a20 := Try.isAgg20
  z20 := Try.sizeOf20
  v20 := Try.zeroValue20
  t37 := Try.underlying34
  a37 := Try.isAgg34
  z37 := Try.sizeOf34
  v37 := Try.zeroValue34
  t70 := Try.underlying43
  a70 := Try.isAgg43
  z70 := Try.sizeOf43
  v70 := Try.zeroValue43
  t72 := Try.underlying45
  a72 := Try.isAgg45
  z72 := Try.sizeOf45
  v72 := Try.zeroValue45
  t75 := Try.underlying48
  a75 := Try.isAgg48
  z75 := Try.sizeOf48
  v75 := Try.zeroValue48
  t164 := Try.underlying96
  a164 := Try.isAgg96
  z164 := Try.sizeOf96
  v164 := Try.zeroValue96
}
theorem extra2 : Builder.Extra Try.prog ren2 := {
  sizeBuilder := by kernel_rfl
  liesBuilder := by kernel_rfl
  t5 := Try.underlying5
  a5 := Try.isAgg5
  z5 := Try.sizeOf5
  v5 := Try.zeroValue5
  infoByte := by kernel_rfl
  cellsByte := by kernel_rfl
  sizeByte := by kernel_rfl
  neB5 := by decide }
theorem wbyte_any (B b : Nat) (bs : List Value) (c : Int) (w : World) (h : Lib.IsBuilderF 45 5 B b bs w) (hlen : bs.length + 1 ≤ 140737488355328) (hBw : B ≤ w.heap.size) :
    Calls Try.prog 16 #[.pointer (some ⟨b, 0, none⟩), .int .u8 c] w fun e w' => e = .returned .nilIface ∧ (Lib.BuilderAtF 45 5 B b (.pointer (some ⟨b, 0, none⟩)) (bs ++ [.int .u8 c]) w' ∧ Below B w w' ∧ Lib.OthersKept 5 (some b) w w') :=
  Any.Builder_WriteByte_k lays167 extra2 B b bs c w h hlen hBw
/-- A builder in block b, all of it from B on, that holds the bytes bs. -/
def Bd (B b : Nat) (bs : List UInt8) (w : World) : Prop := B ≤ w.heap.size ∧ Lib.IsBuilderF 45 5 B b (Lib.byteCells bs) w
theorem bd_write (B b : Nat) (bs : List UInt8) (s : ByteArray) (w : World) (h : Bd B b bs w) (hlen : bs.length + s.size ≤ 140737488355328) :
    Calls Try.prog 17 #[.pointer (some ⟨b, 0, none⟩), .string s] w fun e w' => e = .returned (.tuple #[.int .i64 s.size, .nilIface]) ∧ Bd B b (bs ++ Ops.bl s) w' ∧ Below B w w' := by
  refine (write_any B b _ s w h.2 (by simpa [Lib.byteCells] using hlen) h.1).mono ?_
  rintro e w' ⟨he, hb, hk, _⟩
  refine ⟨he, ⟨Nat.le_trans h.1 hk.size, .inr ?_⟩, hk⟩
  have e2 : Lib.byteCells (bs ++ Ops.bl s) = Lib.byteCells bs ++ Lib.strCells s := by simp [Lib.byteCells, Lib.strCells, Ops.bl]
  rw [e2]; exact hb
theorem bd_byte (B b : Nat) (bs : List UInt8) (c : UInt8) (w : World) (h : Bd B b bs w) (hlen : bs.length + 1 ≤ 140737488355328) :
    Calls Try.prog 16 #[.pointer (some ⟨b, 0, none⟩), .int .u8 c.toNat] w fun e w' => e = .returned .nilIface ∧ Bd B b (bs ++ [c]) w' ∧ Below B w w' := by
  refine (wbyte_any B b _ c.toNat w h.2 (by simpa [Lib.byteCells] using hlen) h.1).mono ?_
  rintro e w' ⟨he, hb, hk, _⟩
  refine ⟨he, ⟨Nat.le_trans h.1 hk.size, .inr ?_⟩, hk⟩
  have e2 : Lib.byteCells (bs ++ [c]) = Lib.byteCells bs ++ [.int .u8 c.toNat] := by simp [Lib.byteCells]
  rw [e2]; exact hb
theorem bd_string (B b : Nat) (bs : List UInt8) (w : World) (h : Bd B b bs w) :
    Calls Try.prog 18 #[.pointer (some ⟨b, 0, none⟩)] w fun e w' => e = .returned (.string (Ops.ofL bs)) ∧ Below B w w' := by
  refine (string_any B b bs w h.2 h.1).mono ?_
  rintro e w' ⟨he, _, hk, _⟩
  exact ⟨he, hk⟩
theorem bd_new (w : World) : Bd w.heap.size w.heap.size [] (w.alloc (.cells #[.pointer none, .slice none 0 0] 45)) :=
  ⟨by simp, .inl ⟨Nat.le_refl _, .slice none 0 0, Has.new w _ _, ⟨rfl, .inl ⟨rfl, rfl⟩⟩, by simp [Value.ownBlock]⟩⟩
theorem Bd.kept {B b : Nat} {bs : List UInt8} {w w' : World} (h : Bd B b bs w) (hk : Kept NoF w w') : Bd B b bs w' := by
  have key : ∀ p, Lib.BuilderAtF 45 5 B b p (Lib.byteCells bs) w → Lib.BuilderAtF 45 5 B b p (Lib.byteCells bs) w' := by
    rintro p ⟨h1, v, h2, h3, h4⟩
    refine ⟨h1, v, (hk.block b (Array.getElem?_eq_some_iff.1 h2).1 (fun x => x)).trans h2, ⟨h3.1, ?_⟩, h4⟩
    rcases h3.2 with hn | ⟨k, cap, cur, fz, rfl, hb, hh, rest⟩
    · exact .inl hn
    · exact .inr ⟨k, cap, cur, fz, rfl, hb, (hk.block k (Array.getElem?_eq_some_iff.1 hh).1 (fun x => x)).trans hh, rest⟩
  exact ⟨Nat.le_trans h.1 hk.size, h.2.elim (fun x => .inl (key _ x)) (fun x => .inr (key _ x))⟩
end Bld
end Go.Proofs.Ytfobbocaodppeaa

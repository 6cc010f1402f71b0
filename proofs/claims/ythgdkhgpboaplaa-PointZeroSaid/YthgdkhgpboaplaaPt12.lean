
/- The law PointZero: a log with checkpoints that nobody made. -/
import Derived.Test.YthgdkhgpboaplaaPt11
set_option linter.unusedSimpArgs false
set_option linter.unusedVariables false
namespace Go.Proofs.Ythgdkhgpboaplaa
open Go.RowKit
set_option maxRecDepth 100000
namespace Pt
open Disk Fr Vn Ops Wl
def ZeroP (w : World) (v : Option Addr) : Prop := v = none ∨ ∃ b, v = some ⟨b, 0, none⟩ ∧ Has w b 32 #[.pointer none, .pointer none, .int .i64 0, .slice none 0 0]
theorem ZeroP.kept {w w' : World} {v : Option Addr} (h : ZeroP w v) (hk : Kept NoF w w') : ZeroP w' v := by
  rcases h with h | ⟨b, h1, h2⟩
  · exact .inl h
  · exact .inr ⟨b, h1, h2.kept hk (fun z => z)⟩
theorem zpnone {w : World} {v : Option Addr} (h : ZeroP w v) : Calls Try.prog 29 #[.pointer v] w fun e w' => e = .returned (.bool true) ∧ w = w' := by
  rcases h with rfl | ⟨b, rfl, h2⟩
  · go_enter Try.func29, Try.ntmps29
    go_wp2
    go_ret
    exact ⟨rfl, rfl⟩
  · have c1 : w.cell? ⟨b, 1, none⟩ = some (.pointer none) := h2.cell 1
    clear h2
    go_enter Try.func29, Try.ntmps29
    go_wp2
    go_ret
    exact ⟨rfl, rfl⟩
theorem zpappend {w : World} {v : Option Addr} (h : ZeroP w v) (s : ByteArray) : Calls Try.prog 10 #[.pointer v, .string s] w fun e w' => e = .returned (.int .i64 8) ∧ w = w' := by
  have HN := Lib.hid (zpnone h)
  clear h
  go_enter Try.func10, Try.ntmps10
  go_wp2_with fail
  refine HN.out.mono ?_
  rintro e w' ⟨rfl, rfl⟩
  go_wp2
  go_ret
  exact ⟨rfl, rfl⟩
theorem zpsave {w : World} {v : Option Addr} (h : ZeroP w v) (A : Option Addr) (n c : Nat) : Calls Try.prog 11 #[.pointer v, .slice A n c] w fun e w' => e = .returned (.int .i64 8) ∧ w = w' := by
  have HN := Lib.hid (zpnone h)
  clear h
  go_enter Try.func11, Try.ntmps11
  go_wp2_with fail
  refine HN.out.mono ?_
  rintro e w' ⟨rfl, rfl⟩
  go_wp2
  go_ret
  exact ⟨rfl, rfl⟩
theorem zpsync {w : World} {v : Option Addr} (h : ZeroP w v) : Calls Try.prog 12 #[.pointer v] w fun e w' => e = .returned (.int .i64 0) ∧ w = w' := by
  have HN := Lib.hid (zpnone h)
  clear h
  go_enter Try.func12, Try.ntmps12
  go_wp2_with fail
  refine HN.out.mono ?_
  rintro e w' ⟨rfl, rfl⟩
  go_wp2
  go_ret
  exact ⟨rfl, rfl⟩
theorem zpsize {w : World} {v : Option Addr} (h : ZeroP w v) : Calls Try.prog 13 #[.pointer v] w fun e w' => e = .returned (.int .i64 0) ∧ w = w' := by
  have HN := Lib.hid (zpnone h)
  clear h
  go_enter Try.func13, Try.ntmps13
  go_wp2_with fail
  refine HN.out.mono ?_
  rintro e w' ⟨rfl, rfl⟩
  go_wp2
  go_ret
  exact ⟨rfl, rfl⟩
theorem zptexts {w : World} {v : Option Addr} (h : ZeroP w v) : Calls Try.prog 14 #[.pointer v] w fun e w' => e = .returned (.slice none 0 0) ∧ w = w' := by
  have HN := Lib.hid (zpnone h)
  clear h
  go_enter Try.func14, Try.ntmps14
  go_wp2_with fail
  refine HN.out.mono ?_
  rintro e w' ⟨rfl, rfl⟩
  go_wp2
  go_ret
  exact ⟨rfl, rfl⟩
theorem zpnew (w : World) : Calls Try.prog 8 #[.pointer none] w fun e w' => e = .returned (.tuple #[.pointer none, .int .i64 1]) ∧ w = w' := by
  go_enter Try.func8, Try.ntmps8
  go_wp2
  go_ret2
  exact ⟨rfl, rfl⟩
theorem zpopen (w : World) : Calls Try.prog 9 #[.pointer none] w fun e w' => e = .returned (.tuple #[.pointer none, .int .i64 1]) ∧ w = w' := by
  go_enter Try.func9, Try.ntmps9
  go_wp2
  go_ret2
  exact ⟨rfl, rfl⟩
set_option maxHeartbeats 4000000 in
theorem law_zero' (s : ByteArray) (w : World) (A : Option Addr) (c : Nat) (l : List ByteArray) (hl : Src w 1 A l.length (l.map Value.string)) (hlc : l.length ≤ c) (hcm : c ≤ maxLen) :
    Calls Try.prog 3 #[.string s, .slice A l.length c] w fun e w' => e = .returned (.bool true) ∧ Below w.heap.size w w' := by
  obtain ⟨w1, hw1⟩ : ∃ w1, w.alloc (.cells #[.int .i64 0, .string s, .slice A l.length c, .int .i64 0] 25) = w1 := ⟨_, rfl⟩
  have hk1 : Kept NoF w w1 := by rw [← hw1]; exact (Kept.refl _ _).alloc _
  have hsa : Src w1 4 (some ⟨w.heap.size, 0, none⟩) [(⟨0, s, A, c, l, 0⟩ : PAct)].length (pacs [⟨0, s, A, c, l, 0⟩]) := by
    have hh : Has w1 w.heap.size 25 #[.int .i64 0, .string s, .slice A l.length c, .int .i64 0] := by rw [← hw1]; exact Has.new _ _ _
    have := Src.of_has (m := 1) (size := 4) hh rfl
    exact this
  have hsh := pshort_any w1 (some ⟨w.heap.size, 0, none⟩) 1 [⟨0, s, A, c, l, 0⟩] hsa (fun a ha => by simp at ha; subst ha; exact hl.kept hk1 (fun _ _ z => z)) (fun a ha => by simp at ha; subst ha; exact Nat.le_trans hlc hcm)
  have HW1 := Lib.hid hw1; have HK1 := Lib.hid hk1
  clear hl hlc hcm hw1 hk1 hsa
  rcases hb : shP [(⟨0, s, A, c, l, 0⟩ : PAct)] with _ | _
  · rw [hb] at hsh
    have HSH := Lib.hid hsh
    clear hsh hb
    go_enter Try.func3, Try.ntmps3
    go_wp2_with fail
    rw [HW1.out]
    refine HSH.out.mono ?_
    rintro e w' ⟨rfl, rfl⟩
    go_wp2_with fail
    refine (awake_any' _).mono ?_
    rintro e w2 ⟨rfl, hk⟩
    go_wp2_with fail
    go_ret
    exact ⟨rfl, (HK1.out.then hk).below (Nat.le_refl _) (fun _ z => z.elim)⟩
  · rw [hb] at hsh
    have HSH := Lib.hid hsh
    have hz : ZeroP (w1.alloc (.cells #[.pointer none, .pointer none, .int .i64 0, .slice none 0 0] 32)) (some ⟨w1.heap.size, 0, none⟩) := .inr ⟨_, rfl, Has.new _ _ _⟩
    have hn : ZeroP (w1.alloc (.cells #[.pointer none, .pointer none, .int .i64 0, .slice none 0 0] 32)) none := .inl rfl
    have HZ := Lib.hid hz; have HN := Lib.hid hn
    clear hsh hb hz hn
    go_enter Try.func3, Try.ntmps3
    go_wp2_with fail
    rw [HW1.out]
    refine HSH.out.mono ?_
    rintro e w' ⟨rfl, rfl⟩
    go_wp2_with fail
    refine (zpnew _).mono ?_
    rintro e w' ⟨rfl, rfl⟩
    go_wp2_with fail
    refine (zpopen _).mono ?_
    rintro e w' ⟨rfl, rfl⟩
    go_wp2_with fail
    refine (zpappend HN.out s).mono ?_
    rintro e w' ⟨rfl, rfl⟩
    go_wp2_with fail
    refine (zpappend HZ.out s).mono ?_
    rintro e w' ⟨rfl, rfl⟩
    go_wp2_with fail
    refine (zpsave HN.out _ _ _).mono ?_
    rintro e w' ⟨rfl, rfl⟩
    go_wp2_with fail
    refine (zpsave HZ.out _ _ _).mono ?_
    rintro e w' ⟨rfl, rfl⟩
    go_wp2_with fail
    refine (zpsync HN.out).mono ?_
    rintro e w' ⟨rfl, rfl⟩
    go_wp2_with fail
    refine (zpsync HZ.out).mono ?_
    rintro e w' ⟨rfl, rfl⟩
    go_wp2_with fail
    refine (zpsize HN.out).mono ?_
    rintro e w' ⟨rfl, rfl⟩
    go_wp2_with fail
    refine (zpsize HZ.out).mono ?_
    rintro e w' ⟨rfl, rfl⟩
    go_wp2_with fail
    refine (zptexts HN.out).mono ?_
    rintro e w' ⟨rfl, rfl⟩
    go_wp2_with fail
    refine (zptexts HZ.out).mono ?_
    rintro e w' ⟨rfl, rfl⟩
    go_wp2_with fail
    refine (awake_any' _).mono ?_
    rintro e w2 ⟨rfl, hk⟩
    go_wp2_with fail
    go_ret
    exact ⟨rfl, ((HK1.out.alloc _).then hk).below (Nat.le_refl _) (fun _ z => z.elim)⟩
end Pt
section
open Go.WideShapes Go.ChangeShapes
variable {H : Type} {enc : TypeId × Value → H} {W : World} {v : Value} {d : DataW H} {ps : List MemPlace} {r : Reach} {b0 : Nat}
theorem Pt.flat_one {α : Type} (f : α → Value) (l : List α) : l.flatMap (fun a => [f a]) = l.map f := by induction l <;> simp_all
theorem Pt.open_strs (hv : ∃ A n c, v = .slice A n c) (h : DataW.Trod enc Try.prog W 0 (fun _ => true) true 22 v d ps) :
    ∃ (A : Option Addr) (c : Nat) (l : List ByteArray), v = .slice A l.length c ∧ l.length ≤ c ∧ c ≤ maxLen ∧ Src W 1 A l.length (l.map Value.string) := by
  obtain ⟨A, c, l, h1, h2, h3, h4, _, _⟩ := open_rows (α := ByteArray) (fun a => [Value.string a]) (fun _ => True) 1 Try.underlying22 (by kernel_rfl) (by decide) (fun _ => rfl)
    (fun fuel cs y hy => by
      obtain ⟨x, hx, hd, hm⟩ := DataW.trod_string Try.underlying9 hy
      exact ⟨x, hx, trivial⟩) h hv
  rw [Pt.flat_one] at h4
  exact ⟨A, c, l, h1, h2, h3, h4⟩
end
end Go.Proofs.Ythgdkhgpboaplaa

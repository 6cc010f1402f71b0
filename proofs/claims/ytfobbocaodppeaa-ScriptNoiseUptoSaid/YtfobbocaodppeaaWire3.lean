
/- The writer beside blocks that it leaves alone. -/
import Derived.Test.YtfobbocaodppeaaWire2
set_option linter.unusedSimpArgs false
set_option linter.unusedVariables false
namespace Go.Proofs.Ytfobbocaodppeaa
open Go.RowKit Go.Shelf
set_option maxRecDepth 100000
namespace Wire
open Vn Ops
abbrev KB := Nat × TypeId × Array Value
/-- A writer in block g that holds bs, all of it from N on, and the blocks 'keep' beside it. -/
def WS (N : Nat) (w : World) (g : Nat) (bs : List UInt8) (keep : List KB) : Prop :=
  N ≤ w.heap.size ∧ ∃ F, WrAt w g F bs ∧ (∀ k, F k → N ≤ k) ∧ ∀ x ∈ keep, ¬ F x.1 ∧ Has w x.1 x.2.1 x.2.2
section
variable {N g : Nat} {w w' : World} {bs : List UInt8} {keep : List KB}
theorem WS.drewN (h : WS N w g bs keep) (n : Nat) : WS N (w.drewN n) g bs keep := h
theorem WS.drew (h : WS N w g bs keep) : WS N w.drew g bs keep := h
theorem WS.alloc (h : WS N w g bs keep) (o : Obj) : WS N (w.alloc o) g bs keep := by
  obtain ⟨h0, F, h1, h2, h3⟩ := h
  exact ⟨by simp; omega, F, h1.kept ((Kept.refl NoF w).alloc o) (sep_no F), h2, fun x hx => ⟨(h3 x hx).1, (h3 x hx).2.alloc o⟩⟩
theorem WS.add (h : WS N w g bs keep) (t : TypeId) (cs : Array Value) : WS N (w.alloc (.cells cs t)) g bs ((w.heap.size, t, cs) :: keep) := by
  obtain ⟨h0, F, h1, h2, h3⟩ := h
  refine ⟨by simp; omega, F, h1.kept ((Kept.refl NoF w).alloc _) (sep_no F), h2, fun x hx => ?_⟩
  rcases List.mem_cons.1 hx with rfl | hx
  · exact ⟨fun hF => by have := h1.lt _ hF; simp at this, Has.new w t cs⟩
  · exact ⟨(h3 x hx).1, (h3 x hx).2.alloc _⟩
theorem WS.tail {x : KB} (h : WS N w g bs (x :: keep)) : WS N w g bs keep := by
  obtain ⟨h0, F, h1, h2, h3⟩ := h
  exact ⟨h0, F, h1, h2, fun y hy => h3 y (List.mem_cons_of_mem _ hy)⟩
theorem WS.tail2 {x y : KB} (h : WS N w g bs (x :: y :: keep)) : WS N w g bs (y :: keep) := h.tail
theorem WS.has {x : KB} (h : WS N w g bs keep) (hx : x ∈ keep) : Has w x.1 x.2.1 x.2.2 := by
  obtain ⟨h0, F, h1, h2, h3⟩ := h
  exact (h3 x hx).2
theorem WS.kept {G : Nat → Prop} (h : WS N w g bs keep) (hk : Kept NoF w w') : WS N w' g bs keep := by
  obtain ⟨h0, F, h1, h2, h3⟩ := h
  exact ⟨Nat.le_trans h0 hk.size, F, h1.kept hk (sep_no F), h2, fun x hx => ⟨(h3 x hx).1, (h3 x hx).2.kept hk (fun y => y)⟩⟩
/-- What a method of the writer leaves. -/
def WPost (N : Nat) (w : World) (g : Nat) (bs : List UInt8) (keep : List KB) (e : Ending) (w' : World) : Prop := e = .returned (.pointer (some ⟨g, 0, none⟩)) ∧ WS N w' g bs keep ∧ Below N w w'
theorem WS.step {f : FuncId} {args : Array Value} {bs' : List UInt8} (h : WS N w g bs keep)
    (hc : ∀ F, WrAt w g F bs → Calls Try.prog f args w (Wrote w g F bs')) : Calls Try.prog f args w (WPost N w g bs' keep) := by
  obtain ⟨h0, F, h1, h2, h3⟩ := h
  refine (hc F h1).mono ?_
  rintro e w' ⟨he, F', g1, g2, g3⟩
  refine ⟨he, ⟨Nat.le_trans h0 g3.size, F', g1, fun k hk => ?_, fun x hx => ⟨fun hF => ?_, (h3 x hx).2.kept g3 (h3 x hx).1⟩⟩, g3.below h0 h2⟩
  · rcases g2 k hk with y | y
    · exact h2 k y
    · omega
  · rcases g2 x.1 hF with y | y
    · exact (h3 x hx).1 y
    · have := (h3 x hx).2.lt; omega
theorem num_s (h : WS N w g bs keep) (n : Nat) (hn : n ≤ 9223372036854775807) (hlen : bs.length + 9 ≤ 140737488355328) :
    Calls Try.prog 25 #[.pointer (some ⟨g, 0, none⟩), .int .i64 n] w (WPost N w g (bs ++ put n) keep) := h.step fun F hF => wnum_any w g F bs n hn hF hlen
theorem big_s (h : WS N w g bs keep) (n : Nat) (hn : n < 18446744073709551616) (hlen : bs.length + 9 ≤ 140737488355328) :
    Calls Try.prog 26 #[.pointer (some ⟨g, 0, none⟩), .int .u64 n] w (WPost N w g (bs ++ put n) keep) := h.step fun F hF => wbig_any w g F bs n hn hF hlen
theorem text_s (h : WS N w g bs keep) (s : ByteArray) (hlen : bs.length + 9 + s.size ≤ 140737488355328) :
    Calls Try.prog 27 #[.pointer (some ⟨g, 0, none⟩), .string s] w (WPost N w g (bs ++ putT s) keep) := h.step fun F hF => wtext_any w g F bs s hF hlen
theorem flag_s (h : WS N w g bs keep) (b : Bool) (hlen : bs.length + 9 ≤ 140737488355328) :
    Calls Try.prog 28 #[.pointer (some ⟨g, 0, none⟩), .bool b] w (WPost N w g (bs ++ putF b) keep) := h.step fun F hF => wflag_any w g F bs b hF (by omega)
/-- A new writer, beside blocks that are there. -/
theorem new_s (w : World) (keep : List KB) (hk : ∀ x ∈ keep, Has w x.1 x.2.1 x.2.2) :
    Calls Try.prog 23 #[] w fun e w' => ∃ g, e = .returned (.pointer (some ⟨g, 0, none⟩)) ∧ WS w.heap.size w' g [] keep ∧ Kept NoF w w' := by
  refine (wnew_any w).mono ?_
  rintro e w' ⟨he, h1, h2⟩
  exact ⟨w.heap.size, he, ⟨h2.size, _, h1, fun k hk => by rw [hk]; exact Nat.le_refl _, fun x hx => ⟨fun e => by have := (hk x hx).lt; omega, (hk x hx).kept h2 (fun y => y)⟩⟩, h2⟩
theorem done_s (h : WS N w g bs keep) (h0 : bs ≠ []) :
    Calls Try.prog 29 #[.pointer (some ⟨g, 0, none⟩)] w fun e w' => e = .returned (.tuple #[.string (ofL bs), .int .i64 0]) ∧ Below N w w' := by
  obtain ⟨hN, F, h1, h2, h3⟩ := h
  refine (done_any w g F bs h1 h0).mono ?_
  rintro e w' ⟨he, hk⟩
  exact ⟨he, hk.below hN h2⟩
theorem behind {a b : World} (h : Kept NoF w a) (hb : Below N a b) (hN : w.heap.size ≤ N) : Kept NoF w b :=
  h.trans (G := fun k => N ≤ k) (Kept.of_below hb fun k _ hf => by omega) fun i hi => .inr (by omega)
end
end Wire
end Go.Proofs.Ytfobbocaodppeaa

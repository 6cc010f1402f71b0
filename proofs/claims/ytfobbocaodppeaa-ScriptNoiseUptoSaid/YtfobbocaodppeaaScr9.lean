/- Blocks beside a reader and a row of operations; script.must, the closure in script.ask. -/
import Derived.Test.YtfobbocaodppeaaScr1
import Derived.Test.YtfobbocaodppeaaRead5
import Derived.Test.YtfobbocaodppeaaRead6
import Derived.Test.YtfobbocaodppeaaWire3
set_option linter.unusedSimpArgs false
set_option linter.unusedVariables false
namespace Go.Proofs.Ytfobbocaodppeaa
open Go.RowKit
set_option maxRecDepth 100000
namespace Scr
open Ops Vn Wire
theorem elemOp : Elem Try.prog 37 55 3 40 := by
  obtain ⟨i0, hi, hz0, hz1, hz2⟩ := info_parts (show (Try.prog.info? 55).map (fun i => (i.zero, i.size, i.bytes)) = some (some (.agg #[.string ⟨#[]⟩, .string ⟨#[]⟩, .bool false]), 3, 40) by kernel_rfl)
  exact ⟨Try.underlying37, ⟨i0, _, hi, hz0, hz1, hz2, rfl⟩, by decide⟩
/-- A reader (rd), the blocks bs, a row of operations l of one's own from B on. -/
def SB (FP : Nat → Prop) (w : World) (rd : World → Prop) (bs : List KB) (B : Nat) (A : Option Addr) (cap : Nat) (l : List OpR) (W : World) : Prop :=
  rd W ∧ (∀ b ∈ bs, Has W b.1 b.2.1 b.2.2) ∧ NewSl 55 3 B W A l.length cap (cells l) ∧ Kept FP w W
structure OrdB (FP : Nat → Prop) (w : World) (g B : Nat) (ks : List Nat) : Prop where
  gF : FP g ∨ w.heap.size ≤ g
  gB : g < B
  wB : w.heap.size ≤ B
  ks : ∀ k ∈ ks, w.heap.size ≤ k ∧ k < B ∧ k ≠ g
/-- What keeps all but other blocks keeps the reader. -/
def RdK (g : Nat) (rd : World → Prop) : Prop := ∀ (F : Nat → Prop) (W W' : World), rd W → Kept F W W' → ¬ F g → rd W'
theorem rdK_r (g : Nat) (s : ByteArray) (r : RS) : RdK g (fun W => RdAt W g s r) := fun _ _ _ h hk hf => h.kept hk hf
theorem cells_snoc (l : List OpR) (o : OpR) : cells (l ++ [o]) = cells l ++ [.string o.key, .string o.val, .bool o.del] := by
  unfold cells
  rw [List.flatMap_append]
  simp [cell]
section
variable {FP : Nat → Prop} {w W W' : World} {g B cap : Nat} {bs : List KB} {rd rd' : World → Prop} {A : Option Addr} {l : List OpR} {v : Value} {e : Ending}
theorem SB.read (o : OrdB FP w g B (bs.map (·.1))) (h : SB FP w rd bs B A cap l W) (hr : e = .returned v ∧ rd' W' ∧ Kept (fun k => k = g) W W') : e = .returned v ∧ SB FP w rd' bs B A cap l W' ∧ Kept (fun k => k = g) W W' := by
  obtain ⟨h1, h2, h4, h5⟩ := h
  obtain ⟨he, g1, g2⟩ := hr
  refine ⟨he, ⟨g1, fun b hb => (h2 b hb).kept g2 (o.ks b.1 (List.mem_map.2 ⟨b, hb, rfl⟩)).2.2, ⟨own_kept h4.1 g2 (fun k hk e => ?_), h4.2⟩, h5.trans g2 fun i hi => by rw [hi]; exact o.gF⟩, g2⟩
  have := h4.2 k hk
  have := o.gB
  omega
theorem SB.readR {s : ByteArray} {r r' : RS} (o : OrdB FP w g B (bs.map (·.1))) (h : SB FP w (fun W => RdAt W g s r) bs B A cap l W) (hr : RRead W g s v r' e W') : e = .returned v ∧ SB FP w (fun W => RdAt W g s r') bs B A cap l W' ∧ Kept (fun k => k = g) W W' :=
  SB.read (rd' := fun W => RdAt W g s r') o h hr
theorem SB.keep (hrd : RdK g rd) (h : SB FP w rd bs B A cap l W) (hk : Kept NoF W W') : SB FP w rd bs B A cap l W' :=
  ⟨hrd _ _ _ h.1 hk (fun z => z), fun b hb => (h.2.1 b hb).kept hk (fun z => z), h.2.2.1.kept hk, h.2.2.2.trans hk fun _ z => z.elim⟩
theorem SB.row (h : SB FP w rd bs B A cap l W) : ∀ k, (Value.slice A l.length cap).ownBlock = some k → k < W.heap.size := fun k hk => own_lt h.2.2.1.1 hk
theorem SB.has (h : SB FP w rd bs B A cap l W) {b : KB} (hb : b ∈ bs) : Has W b.1 b.2.1 b.2.2 := h.2.1 b hb
theorem SB.setx {x i : Nat} {t : TypeId} {cs cs' : Array Value} {u : Value} (hrd : RdK g rd) (o : OrdB FP w g B (x :: bs.map (·.1))) (hx : x ∉ bs.map (·.1)) (h : SB FP w rd ((x, t, cs) :: bs) B A cap l W) (he : cs.setIfInBounds i u = cs') :
    SB FP w rd ((x, t, cs') :: bs) B A cap l (W.setCell ⟨x, i, none⟩ u) := by
  obtain ⟨h1, h2, h4, h5⟩ := h
  have hk : Kept (fun k => k = x) W (W.setCell ⟨x, i, none⟩ u) := (Kept.refl _ W).put (.inl rfl)
  have ox := o.ks x (by simp)
  refine ⟨hrd _ _ _ h1 hk (fun e => ox.2.2 e.symm), fun b hb => ?_, ⟨own_kept h4.1 hk (fun k hk e => ?_), h4.2⟩, h5.trans hk fun i hi => by rw [hi]; exact .inr ox.1⟩
  · rcases List.mem_cons.1 hb with rfl | hb
    · exact Has.put_of (h2 (x, t, cs) (by simp)) he
    · exact (h2 b (by simp [hb])).kept hk (fun e => hx (List.mem_map.2 ⟨b, hb, e⟩))
  · have := h4.2 k hk
    have := ox.2.1
    omega
theorem SB.far (hrd : RdK g rd) (o : OrdB FP w g B (bs.map (·.1))) (h : SB FP w rd bs B A cap l W) {z : Nat} (hz : B ≤ z) (hr : ∀ k, (Value.slice A l.length cap).ownBlock = some k → k < z) (i : Nat) (u : Value) : SB FP w rd bs B A cap l (W.setCell ⟨z, i, none⟩ u) := by
  obtain ⟨h1, h2, h4, h5⟩ := h
  have hk : Kept (fun k => k = z) W (W.setCell ⟨z, i, none⟩ u) := (Kept.refl _ W).put (.inl rfl)
  have b1 := o.gB
  have b2 := o.wB
  refine ⟨hrd _ _ _ h1 hk (by omega), fun b hb => (h2 b hb).kept hk (by have := (o.ks b.1 (List.mem_map.2 ⟨b, hb, rfl⟩)).2.1; omega), ⟨own_kept h4.1 hk (fun k hk e => ?_), h4.2⟩, h5.trans hk fun i hi => by rw [hi]; exact .inr (by omega)⟩
  have := hr k hk
  omega
theorem SB.append (hrd : RdK g rd) (o : OrdB FP w g B (bs.map (·.1))) (h : SB FP w rd bs B A cap l W) (hB : B ≤ W.heap.size) {W1 : World} (hW : Kept NoF W W1) {A' : Option Addr} {cap' : Nat} {w6 : World} {p : OpR} (ho : w6.ownsRow 0 55 3 (.slice A' (l.length + 1) cap') (l.length + 1) (cells l ++ [.string p.key, .string p.val, .bool p.del]))
    (hg : W1.grownBy w6 (Value.slice A l.length cap).ownBlock) (ha : (Value.slice A' (l.length + 1) cap').ownBlock = (Value.slice A l.length cap).ownBlock ∨ (Value.slice A' (l.length + 1) cap').ownBlock = some W1.heap.size) :
    SB FP w rd bs B A' cap' (l ++ [p]) w6 := by
  obtain ⟨h1, h2, h4, h5⟩ := h
  have hz1 := hW.size
  have hk : Kept (fun k => (Value.slice A l.length cap).ownBlock = some k) W w6 := (hW.mono fun _ z => z.elim).grown hg (fun k hk => .inl hk)
  have b1 := o.gB
  have hn : ∀ z, z < B → ¬ (Value.slice A l.length cap).ownBlock = some z := fun z hz e => by have := h4.2 z e; omega
  refine ⟨hrd _ _ _ h1 hk (hn g b1), fun b hb => (h2 b hb).kept hk (hn b.1 (o.ks b.1 (List.mem_map.2 ⟨b, hb, rfl⟩)).2.1), ?_, h5.trans hk fun i hi => .inr (by have := h4.2 i hi; have := o.wB; omega)⟩
  rw [cells_snoc, List.length_append]
  exact ⟨ho, fun k hk => by
    rcases ha with e | e
    · exact h4.2 k (e.symm.trans hk)
    · have hk' : (Value.slice A' (l.length + 1) cap').ownBlock = some k := hk
      rw [hk'] at e
      injection e with e
      omega⟩
end
theorem must_ok (w : World) : Calls Try.prog 41 #[.int .i64 0] w fun e w' => e = .returned (.tuple #[]) ∧ w = w' := by
  go_enter Try.func41, Try.ntmps41
  go_wp2
  go_end0
  exact ⟨rfl, rfl⟩
theorem must_no (c : Int) (hc : c ≠ 0) (w : World) : Calls Try.prog 41 #[.int .i64 c] w fun e w' => e = thrown c ∧ w = w' := by
  have h : (c != 0) = true := by simpa using hc
  go_enter Try.func41, Try.ntmps41
  go_wp2
  exact ⟨rfl, rfl, rfl⟩
theorem asknum_any (w : World) (b g : Nat) (s : ByteArray) (r : RS) (h : RdAt w g s r) (hs : s.size ≤ maxLen) (hb : w.cell? ⟨b, 0, none⟩ = some (.pointer (some ⟨g, 0, none⟩))) :
    Calls Try.prog 60 #[.pointer (some ⟨b, 0, none⟩)] w (RRead w g s (.int .i64 (rNum s 1073741824 r).1) (rNum s 1073741824 r).2) := by
  have hn := num_any w g s r 1073741824 h hs (by decide)
  have HN := Lib.hid hn; clear hn h
  go_enter Try.func60, Try.ntmps60
  go_wp2_with fail
  refine HN.out.mono ?_
  rintro e w2 ⟨rfl, hr⟩
  have HR := Lib.hid hr; clear hr
  go_wp2
  go_ret
  exact ⟨rfl, HR.out⟩
end Scr
end Go.Proofs.Ytfobbocaodppeaa

/- The two disks: one call of both. -/
import Derived.Test.YtopkeknpdimimaaPlP
import Derived.Deep.RegionHeld3
set_option linter.unusedSimpArgs false
set_option linter.unusedVariables false
namespace Go.Proofs.Ytopkeknpdimimaa
open Go.RowKit Go.Maps
set_option maxRecDepth 100000
namespace Disk
variable {F G : Nat → Prop} {w : World} {g x n : Nat} {m : Safe} {fs ps : List Pc} {ser boot : Int} {i S B : Nat}

abbrev actV (a : DAct) : Value := .agg #[.int .i64 a.1, .int .i64 a.2.1, .string a.2.2.1, .int .i64 a.2.2.2]
def StepPost (w : World) (B g x i S : Nat) (e : Ending) (w' : World) : Prop := e = .returned (.bool true) ∧ PlAt w' B g x i S ∧ Below B w w'
/-- What both answer to one call: the program first. -/
def BothC (w : World) (B g x i S p q : Nat) (a1 a2 : Array Value) (v1 v2 : Value) : Prop :=
  ∃ F G : Nat → Prop, (∀ k, F k → k < w.heap.size) ∧ (∀ k, G k → k < w.heap.size) ∧ ∀ W, Kept NoF w W → Calls Try.prog p a1 W fun e1 W1 => e1 = .returned v1 ∧ Kept F W W1 ∧
    ∀ W2, Kept NoF W1 W2 → Calls Try.prog q a2 W2 fun e2 W3 => e2 = .returned v2 ∧ Kept G W2 W3 ∧ PlAt W3 B g x i S ∧ Below B w W3
theorem both_mk {p q : Nat} {a1 a2 : Array Value} {v1 v2 : Value} {n' : Nat} {m' : Safe} {fs' ps' : List Pc} {ser' boot' : Int}
    (hd : DiskAt w g F n m ps ser boot) (hr : RefD w x G fs ps ser boot) (hs : Sep F G) (hF : ∀ k, F k → B ≤ k) (hG : ∀ k, G k → B ≤ k) (hB : B ≤ w.heap.size)
    (h1 : ∀ W, DiskAt W g F n m ps ser boot → Calls Try.prog p a1 W (AfterD W g F v1 n' m' ps' ser' boot'))
    (h2 : ∀ W, RefD W x G fs ps ser boot → Calls Try.prog q a2 W (AfterR W x G v2 fs' ps' ser' boot'))
    (hm : Mo i S n' m' fs' ps' ser' boot') : BothC w B g x i S p q a1 a2 v1 v2 := by
  refine ⟨F, G, hd.lt, hr.lt, fun W hW => (h1 W (hd.kept hW (fun _ _ x => x))).mono ?_⟩
  rintro e1 W1 ⟨rfl, F1, hd1, g1, k1⟩
  refine ⟨rfl, k1, fun W2 hW2 => (h2 W2 (((hr.kept hW (fun _ _ x => x)).kept k1 hs.symm).kept hW2 (fun _ _ x => x))).mono ?_⟩
  rintro e2 W3 ⟨rfl, G2, hr2, g2, k2⟩
  have hz := hW.size
  obtain ⟨ha, hb⟩ := pl_mk (w := W) (w1 := W2) hs hF hG (by omega) (fun k hk => by have := hr.lt k hk; omega) (hd1.kept hW2 (fun _ _ x => x)) g1 (k1.then (hW2.mono fun _ x => x.elim)) hr2 g2 k2 hm
  exact ⟨rfl, k2, ha, (hW.below hB (fun _ x => x.elim)).trans hb⟩
theorem afterD_same {W W' : World} {e : Ending} {v : Value} (he : e = .returned v) (hd : DiskAt W' g F n m ps ser boot) (hk : Kept F W W') : AfterD W g F v n m ps ser boot e W' := ⟨he, F, hd, Grows.refl _ _, hk⟩

theorem both_write (h : PlAt w B g x i S) (hB : B ≤ w.heap.size) (hi : i ≤ 1000) (f : Int) (s : ByteArray) :
    ∃ v, BothC w B g x (i + 1) (S + s.size) 10 11 #[.pointer (some ⟨g, 0, none⟩), .int .i64 f, .string s] #[.pointer (some ⟨x, 0, none⟩), .int .i64 f, .string s] (.int .i64 v) (.int .i64 v) := by
  obtain ⟨F, G, n, m, fs, ps, ser, boot, hd, hr, hs, hF, hG, hm⟩ := h
  have := hm.cf
  by_cases hf : 1 ≤ f ∧ f ≤ 1073741824
  · exact ⟨0, both_mk hd hr hs hF hG hB (fun W hW => write_ok hW f s hf.1 hf.2 (by omega)) (fun W hW => rwrite_ok hW f s hf.1 hf.2 (by omega)) (hm.write f s hf.1 hf.2)⟩
  · exact ⟨1, both_mk hd hr hs hF hG hB (fun W hW => write_bad hW f s (by omega)) (fun W hW => rwrite_bad hW f s (by omega)) (hm.up _)⟩
theorem both_sync (h : PlAt w B g x i S) (hB : B ≤ w.heap.size) (hi : i ≤ 1000) (hS : S ≤ 10000000) (z : Nat) :
    ∃ v, BothC w B g x (i + 1) (S + z) 12 13 #[.pointer (some ⟨g, 0, none⟩)] #[.pointer (some ⟨x, 0, none⟩)] (.int .i64 v) (.int .i64 v) := by
  obtain ⟨F, G, n, m, fs, ps, ser, boot, hd, hr, hs, hF, hG, hm⟩ := h
  have h1 := hm.cf
  have h2 := hm.cn
  have h3 : total ps ≤ S := by have := hm.sz 0; omega
  exact ⟨total ps, both_mk hd hr hs hF hG hB
    (fun W hW => (sync_any hW (fun p hp => i64_num (hm.kp p hp)) (by omega) (by omega) S (fun k => by have := hm.sz k; omega) (by omega)).mono fun e W' h => afterD_same h.1 h.2.1 h.2.2)
    (fun W hW => rsync_any hW (by omega) (by omega) S (fun p hp => by have := hm.sizes p hp; omega) (by omega)) (hm.sync.up z)⟩
theorem both_crash (h : PlAt w B g x i S) (hB : B ≤ w.heap.size) (hi : i ≤ 1000) (hS : S ≤ 10000000) (z : Nat) (K : Int) (hK : K ≤ 9223372036854775807) :
    BothC w B g x (i + 1) (S + z) 16 17 #[.pointer (some ⟨g, 0, none⟩), .int .i64 K] #[.pointer (some ⟨x, 0, none⟩), .int .i64 K] (.tuple #[]) (.tuple #[]) := by
  obtain ⟨F, G, n, m, fs, ps, ser, boot, hd, hr, hs, hF, hG, hm⟩ := h
  have h1 := hm.cf
  have h2 := hm.cn
  have h3 : total ps ≤ S := by have := hm.sz 0; omega
  exact both_mk hd hr hs hF hG hB
    (fun W hW => (crash_any hW hm.b0 hm.b1 K hK (fun p hp => i64_num (hm.kp p hp)) (by omega) (by omega) S (fun k => by have := hm.sz k; omega) (.inl (by omega))).mono fun e W' h => afterD_same h.1 h.2.1 h.2.2)
    (fun W hW => rcrash_any hW hm.b0 hm.b1 K hK (by omega) (by omega) S (fun p hp => by have := hm.sizes p hp; omega) (by omega)) ((hm.crash _).up z)
theorem both_erase (h : PlAt w B g x i S) (hB : B ≤ w.heap.size) (z : Nat) :
    BothC w B g x (i + 1) (S + z) 18 19 #[.pointer (some ⟨g, 0, none⟩)] #[.pointer (some ⟨x, 0, none⟩)] (.tuple #[]) (.tuple #[]) := by
  obtain ⟨F, G, n, m, fs, ps, ser, boot, hd, hr, hs, hF, hG, hm⟩ := h
  exact both_mk hd hr hs hF hG hB
    (fun W hW => (erase_any hW hm.s0 hm.s1 hm.b0 hm.b1).mono fun e W' h => afterD_same h.1 h.2.1 h.2.2)
    (fun W hW => rerase_any hW hm.s0 hm.s1 hm.b0 hm.b1) (hm.erase.up z)
theorem both_drop (h : PlAt w B g x i S) (hB : B ≤ w.heap.size) (hi : i ≤ 1000) (z : Nat) (f : Int) (hf : I64 f) :
    ∃ v, BothC w B g x (i + 1) (S + z) 14 15 #[.pointer (some ⟨g, 0, none⟩), .int .i64 f] #[.pointer (some ⟨x, 0, none⟩), .int .i64 f] (.int .i64 v) (.int .i64 v) := by
  obtain ⟨F, G, n, m, fs, ps, ser, boot, hd, hr, hs, hF, hG, hm⟩ := h
  have h1 := hm.cf
  have h2 := hm.cn
  have hh := hm.like.has (ps := ps) f
  by_cases hb : isFile m ps f = true
  · rw [hb] at hh
    exact ⟨0, both_mk hd hr hs hF hG hB
      (fun W hW => (dropP_any hW f hf (by omega) (fun p hp => i64_num (hm.kp p hp)) (by omega) hb).mono fun e W' h => afterD_same h.1 h.2.1 h.2.2)
      (fun W hW => rdrop_any hW f hh.symm (by omega) (by omega)) ((hm.drop f).up z)⟩
  · have hb' : isFile m ps f = false := by simpa using hb
    rw [hb'] at hh
    exact ⟨7, both_mk hd hr hs hF hG hB
      (fun W hW => (dropP_no hW f hf (by omega) (fun p hp => i64_num (hm.kp p hp)) (by omega) hb').mono fun e W' h => afterD_same h.1 (hW.kept h.2 (fun _ _ x => x)) (h.2.mono fun _ x => x.elim))
      (fun W hW => (rdrop_no hW f hh.symm (by omega) (by omega)).mono fun e W' h => ⟨h.1, G, hW.kept h.2 (fun _ _ x => x), Grows.refl _ _, h.2.mono fun _ x => x.elim⟩) (hm.up z)⟩
end Disk
end Go.Proofs.Ytopkeknpdimimaa

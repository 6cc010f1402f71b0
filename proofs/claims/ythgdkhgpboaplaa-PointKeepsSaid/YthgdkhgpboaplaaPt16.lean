
/- The law PointKeeps: its parts. -/
import Derived.Test.YthgdkhgpboaplaaPt11
import Derived.Test.YthgdkhgpboaplaaPt15
set_option linter.unusedSimpArgs false
set_option linter.unusedVariables false
namespace Go.Proofs.Ythgdkhgpboaplaa
open Go.RowKit
set_option maxRecDepth 100000
namespace Pt
open Disk Fr Vn Ops Wl
/-- An act's list lies where its slice says. -/
def AOk (W : World) (a : PAct) : Prop := Src W 1 a.A a.l.length (a.l.map Value.string) ∧ a.l.length ≤ maxLen ∧ I64 a.n
theorem AOk.kept {W W' : World} {a : PAct} (h : AOk W a) (hk : Kept NoF W W') : AOk W' a := ⟨h.1.kept hk (fun _ _ z => z), h.2⟩
end Pt
section
open Go.WideShapes Go.ChangeShapes
variable {H : Type} {enc : TypeId × Value → H} {W : World} {v : Value} {d : DataW H} {ps : List MemPlace} {r : Reach} {b0 : Nat}
theorem Pt.open_acts (hv : ∃ A n c, v = .slice A n c) (h : DataW.Trod enc Try.prog W 0 (fun _ => true) true 26 v d ps) :
    ∃ (A : Option Addr) (c : Nat) (l : List Pt.PAct), v = .slice A l.length c ∧ l.length ≤ c ∧ c ≤ maxLen ∧ Src W 4 A l.length (Pt.pacs l) ∧ (∀ a ∈ l, Pt.AOk W a) := by
  obtain ⟨A, c, l, h1, h2, h3, h4, h5, _⟩ := open_rows (α := Pt.PAct) Pt.pcs (Pt.AOk W) 4 Try.underlying26 (by kernel_rfl) (by decide) (fun _ => rfl)
    (fun fuel cs y hy => by
      obtain ⟨y0, y1, y2, y3, n, _, hl, h0, h1, h2, h3⟩ := Joins.trod_struct4 Try.underlying25 hy
      have hC : Try.prog.cellsOf 25 = 4 := by kernel_rfl
      rw [hC] at hl
      match cs, hl with
      | [c0, c1, c2, c3], _ =>
        have e3 : Try.prog.cellsOf 3 = 1 := by kernel_rfl
        have e9 : Try.prog.cellsOf 9 = 1 := by kernel_rfl
        have e22 : Try.prog.cellsOf 22 = 1 := by kernel_rfl
        obtain ⟨x0, hx0, _, _⟩ := DataW.trod_int Try.underlying3 h0
        obtain ⟨x1, hx1, _, m1⟩ := DataW.trod_string Try.underlying9 h1
        obtain ⟨x3, hx3, _, m3⟩ := DataW.trod_int Try.underlying3 h3
        simp [e3, e9, e22] at hx0 hx1 h2 hx3
        subst hx0
        subst hx1
        subst hx3
        have hv1 : ∃ A n c, c2 = .slice A n c := by
          rcases Deep.open_slice Try.underlying22 h2 with ⟨e, _⟩ | ⟨a, len, cap, _, _, _, _, e, _⟩
          · simp at e; exact ⟨_, _, _, e⟩
          · simp at e; exact ⟨_, _, _, e⟩
        have h2' : DataW.Trod enc Try.prog W 0 (fun _ => true) true 22 c2 y2.1 y2.2 := by
          obtain ⟨A, k', c, rfl⟩ := hv1
          exact ⟨n, h2⟩
        obtain ⟨A2, c2', l2, e2, g1, g2, g3⟩ := Pt.open_strs hv1 h2'
        subst e2
        exact ⟨⟨x0, x1, A2, c2', l2, x3⟩, rfl, g3, Nat.le_trans g1 g2, m3⟩) h hv
  exact ⟨A, c, l, h1, h2, h3, h4, h5⟩
end
namespace Pt
open Disk Fr Vn Ops Wl
theorem ptx_take (k : Nat) (l : List ByteArray) (M : Nat) : (ptx k l).take (M + 1) = ptx k (l.take M) := by
  unfold ptx
  rw [List.take_succ_cons, List.map_take]
section
variable {w0 w w' : World} {gp gw g n c : Nat} {F : Nat → Prop} {m : Disk.Safe} {ps : List Disk.Pc} {boot first : Int} {R : St} {T : List (List UInt8)} {A : Option Addr} {l : List ByteArray}
theorem PtAt.pcs_len {B : Nat} {ser : Int} (h : PtAt w B gp gw g F n m ps ser boot first R T A c l) : ps.length = T.length := by rw [h.low.low.pcs h.log, pcsOf_len]
/-- What a crash leaves of a point's log. -/
theorem PtAt.crash {B : Nat} {ser : Int} (h : PtAt w B gp gw g F n m ps ser boot first R T A c l) (hh : Hd R) (left : Nat) :
    ∃ R' k M, Log first R' [] (crashM m left ps) [] ∧ LowN first (crashM m left ps) [] ∧ Hd R' ∧ texts R' = ptx k (l.take M) ∧ M ≤ l.length ∧ (texts R).length ≤ M + 1 ∧ R'.length ≤ R.length + T.length ∧ k + 1 ≤ (texts R).length := by
  obtain ⟨R', j, a, b, e, ct, d⟩ := mis_crash2 ps left h.log.safe h.log.ok hh h.log.T h.log.rest
  obtain ⟨k, h3, h4⟩ := h.tx
  have hpre : texts R' <+: ptx k l := by rw [ct, ← h3]; exact (List.prefix_append_right_inj _).2 (List.take_prefix _ _)
  have hge : (texts R).length ≤ (texts R').length := by rw [ct]; simp
  have hle := hpre.length_le
  rw [ptx_len] at hle
  obtain ⟨M, hM⟩ : ∃ M, (texts R').length = M + 1 := ⟨(texts R').length - 1, by omega⟩
  refine ⟨R', k, M, ⟨a, rfl, b, fun t ht => by cases ht⟩, h.low.crash left, e, ?_, by omega, by omega, d, h4⟩
  rw [List.prefix_iff_eq_take.1 hpre, hM, ptx_take]
/-- The point that Open has found. -/
theorem PtW.opened {w2 w3 : World} {n2 : Nat} {m2 : Disk.Safe} {boot2 : Int} {R' : St} {k : Nat} (hF : ∀ k, F k → w0.heap.size ≤ k) (hk2 : Kept NoF w0 w2) (hl : Log first R' [] m2 []) (hlo : LowN first m2 []) (hh : Hd R') (ht : texts R' = ptx k l) (hk : k + 1 ≤ (texts R').length) (hkb : k ≤ 1073741824)
    (h1 : 1 ≤ first) (hs : ∀ s ∈ l, s.size < 65536) {e : Ending} (hp : POpenPost w2 g F n2 m2 1 boot2 (first + (0 : Nat)) (R'.length - 1) R' e w3) :
    ∃ gp' gw' A' c', e = .returned (.tuple #[.pointer (some ⟨gp', 0, none⟩), .int .i64 0]) ∧ PtW w0 w3 gp' gw' g F n2 (keepM (first + (0 : Nat)) (first + (0 : Nat) + 1 + (R'.length - 1 : Nat)) m2) [] boot2 first R' [] A' c' l := by
  obtain ⟨gp', gw', A', c', he, p1, p2, p3, p4, p5, p6, p7⟩ := hp
  obtain ⟨_, _, _, htx⟩ := found hl hh ht hkb
  rw [htx] at p1 p4
  rw [List.length_map] at p1 p4
  have e0 : first + ((0 : Nat) : Int) = first := by omega
  rw [e0] at p1 p2 p3 ⊢
  rw [tcells_bl] at p4
  have hlen := hh.len
  have hsz := hk2.size
  refine ⟨gp', gw', A', c', he, ⟨p3, p1, by show WAt w3 gw' g (first + lastOf R'); exact p2, ⟨p4.1, fun k hk => Nat.le_trans hsz (p4.2 k hk)⟩, log_kept hl (by omega), ⟨fun x hx => by unfold keepM; rw [if_neg (by omega)], fun p hp => by cases hp⟩, h1, ⟨k, by rw [List.append_nil]; exact ht, hk⟩, hs⟩, hF, Nat.le_trans hsz p5, Nat.le_trans hsz p6, hk2.trans p7 (fun k hk => .inr (hF k hk))⟩
theorem popen_log {w2 : World} {n2 : Nat} {m2 : Disk.Safe} {boot2 : Int} {R' : St} {k : Nat} (hd : DiskAt w2 g F n2 m2 [] 1 boot2) (hn : n2 ≤ 100000) (hl : Log first R' [] m2 []) (hlo : LowN first m2 []) (hh : Hd R') (ht : texts R' = ptx k l) (hk : k ≤ l.length) (hkb : k ≤ 1073741824)
    (h1 : 1 ≤ first) (h2 : first + R'.length ≤ 1073741824) (h3 : R'.length ≤ 100000) :
    Calls Try.prog 9 #[.pointer (some ⟨g, 0, none⟩)] w2 (POpenPost w2 g F n2 m2 1 boot2 (first + (0 : Nat)) (R'.length - 1) R') := by
  obtain ⟨f1, f2, f3, f4⟩ := found hl hh ht hkb
  have hif := hlo.isFile hl
  have hlen := hh.len
  exact popen_any hd hn first R'.length 0 (R'.length - 1) k R' hif h1 h2 hlen (fun x => Nat.le_trans (hlo.low.size hl x) (by decide)) f1 f2 f3 (by omega) (by rw [f4, List.length_map]; exact hk) (by
    have e0 : first + ((0 : Nat) : Int) = first := by omega
    rw [e0]
    exact log_kept hl (by omega)) h3
end
end Pt
end Go.Proofs.Ythgdkhgpboaplaa


/- The checkpointed log: New, Append, Sync, Texts. -/
import Derived.Test.YthgdkhgpboaplaaPt6
set_option linter.unusedSimpArgs false
set_option linter.unusedVariables false
namespace Go.Proofs.Ythgdkhgpboaplaa
open Go.RowKit
set_option maxRecDepth 100000
namespace Pt
open Disk Fr Vn Ops Wl
/-- The point behind block gp: its log, its disk, its texts. -/
structure PtAt (w : World) (B gp gw g : Nat) (F : Nat → Prop) (n : Nat) (m : Disk.Safe) (ps : List Disk.Pc) (ser boot first : Int) (R : St) (T : List (List UInt8)) (A : Option Addr) (c : Nat) (l : List ByteArray) : Prop where
  d : DiskAt w g F n m ps ser boot
  p : PAt w gp (.pointer (some ⟨gw, 0, none⟩)) g first (.slice A l.length c)
  wl : WAt w gw g (first + lastOf (cur R T))
  row : NewSl 9 1 B w A l.length c (l.map Value.string)
  log : Log first R T m ps
  low : LowN first m ps
  f1 : 1 ≤ first
  tx : ∃ k, texts R ++ T = ptx k l ∧ k + 1 ≤ (texts R).length
  hs : ∀ s ∈ l, s.size < 65536
/-- What a point's calls may turn. -/
def PF (gp gw : Nat) (F : Nat → Prop) (A : Option Addr) (n c : Nat) (k : Nat) : Prop := F k ∨ k = gp ∨ k = gw ∨ (Value.slice A n c).ownBlock = some k
section
variable {w : World} {B gp gw g n c : Nat} {F : Nat → Prop} {m : Disk.Safe} {ps : List Disk.Pc} {ser boot first : Int} {R : St} {T : List (List UInt8)} {A : Option Addr} {l : List ByteArray}
theorem PtAt.kept {w' : World} (h : PtAt w B gp gw g F n m ps ser boot first R T A c l) (hk : Kept NoF w w') : PtAt w' B gp gw g F n m ps ser boot first R T A c l :=
  ⟨h.d.kept hk (fun _ _ z => z), h.p.kept hk (fun z => z), h.wl.kept hk (fun z => z), h.row.kept hk, h.log, h.low, h.f1, h.tx, h.hs⟩
theorem pnone_any {v0 v3 : Value} {f : Int} (h : PAt w gp v0 g f v3) : Calls Try.prog 29 #[.pointer (some ⟨gp, 0, none⟩)] w fun e w' => e = .returned (.bool false) ∧ w = w' := by
  have c1 : w.cell? ⟨gp, 1, none⟩ = some (.pointer (some ⟨g, 0, none⟩)) := h.cell 1
  clear h
  go_enter Try.func29, Try.ntmps29
  go_wp2
  go_ret
  exact ⟨rfl, rfl⟩
theorem texts_any (h : PtAt w B gp gw g F n m ps ser boot first R T A c l) (hl : l.length ≤ 1000000) :
    Calls Try.prog 14 #[.pointer (some ⟨gp, 0, none⟩)] w fun e w' => ∃ A' c', e = .returned (.slice A' l.length c') ∧ NewSl 9 1 w.heap.size w' A' l.length c' (l.map Value.string) ∧ Below w.heap.size w w' := by
  have hno := pnone_any h.p
  have hcl := clone_any w A c l (by have := Src.of_own h.row.1; exact this) (by omega)
  have c3 : w.cell? ⟨gp, 3, none⟩ = some (.slice A l.length c) := h.p.cell 3
  have HNO := Lib.hid hno; have HCL := Lib.hid hcl
  clear hno hcl h hl
  go_enter Try.func14, Try.ntmps14
  go_wp2_with fail
  refine HNO.out.mono ?_
  rintro e w' ⟨rfl, rfl⟩
  go_wp2_with fail
  refine HCL.out.mono ?_
  rintro e w' ⟨A', c', rfl, h1, h2⟩
  go_wp2
  go_ret
  exact ⟨A', c', rfl, h1, h2⟩
theorem PtAt.gp_not (h : PtAt w B gp gw g F n m ps ser boot first R T A c l) : ¬ F gp ∧ ¬ F gw ∧ gp ≠ gw := ⟨DiskAt.not h.d h.p (by decide) (by decide), DiskAt.not h.d h.wl (by decide) (by decide), h.p.ne h.wl (by decide)⟩
theorem PtAt.row_not (h : PtAt w B gp gw g F n m ps ser boot first R T A c l) {k : Nat} (hk : (Value.slice A l.length c).ownBlock = some k) : ¬ F k ∧ k ≠ gp ∧ k ≠ gw := by
  obtain ⟨cs, hh⟩ := own_has h.row.1 hk
  exact ⟨DiskAt.not h.d hh (by decide) (by decide), fun e => by subst e; exact Has.ne hh h.p (by decide) rfl, fun e => by subst e; exact Has.ne hh h.wl (by decide) rfl⟩
def PSyncPost (w : World) (B gp gw g : Nat) (F : Nat → Prop) (n : Nat) (m : Disk.Safe) (ps : List Disk.Pc) (ser boot first : Int) (R : St) (T : List (List UInt8)) (A : Option Addr) (c : Nat) (l : List ByteArray) (e : Ending) (w' : World) : Prop :=
  (∃ k : Int, e = .returned (.int .i64 k)) ∧ PtAt w' B gp gw g F (n + ps.length) (syncM m ps) [] ser boot first (cur R T) [] A c l ∧ Kept F w w'
theorem psync_any (h : PtAt w B gp gw g F n m ps ser boot first R T A c l) (hf : Fits n m ps) :
    Calls Try.prog 12 #[.pointer (some ⟨gp, 0, none⟩)] w (PSyncPost w B gp gw g F n m ps ser boot first R T A c l) := by
  have htt := hf.total
  have hno := pnone_any h.p
  have hsy := sync_any h.d hf.i64 (by have := hf.len; omega) (by have := hf.n; omega) 100000 hf.file (by omega)
  have c1 : w.cell? ⟨gp, 1, none⟩ = some (.pointer (some ⟨g, 0, none⟩)) := h.p.cell 1
  have hfin : ∀ w', DiskAt w' g F (n + ps.length) (syncM m ps) [] ser boot → Kept F w w' → PSyncPost w B gp gw g F n m ps ser boot first R T A c l (.returned (.int .i64 (total ps))) w' := by
    intro w' h1 h2
    refine ⟨⟨_, rfl⟩, ⟨h1, h.p.kept h2 h.gp_not.1, h.wl.kept h2 h.gp_not.2.1, ⟨own_kept h.row.1 h2 (fun k hk => (h.row_not hk).1), h.row.2⟩, h.log.sync, h.low.sync, h.f1, ?_, h.hs⟩, h2⟩
    obtain ⟨k, h3, h4⟩ := h.tx
    refine ⟨k, by rw [cur_texts, List.append_nil, h3], ?_⟩
    rw [cur_texts, List.length_append]
    omega
  have HNO := Lib.hid hno; have HSY := Lib.hid hsy; have HFIN := Lib.hid hfin
  clear hno hsy hfin h hf htt
  go_enter Try.func12, Try.ntmps12
  go_wp2_with fail
  refine HNO.out.mono ?_
  rintro e w' ⟨rfl, rfl⟩
  go_wp2_with fail
  refine HSY.out.mono ?_
  rintro e w' ⟨rfl, h1, h2⟩
  have HF := Lib.hid (HFIN.out w' h1 h2)
  clear h1 h2
  go_wp2
  go_ret
  exact HF.out
def PAppPost (w : World) (B gp gw g : Nat) (F : Nat → Prop) (n : Nat) (m : Disk.Safe) (ps : List Disk.Pc) (ser boot first : Int) (R : St) (T : List (List UInt8)) (A : Option Addr) (c : Nat) (l : List ByteArray) (s : ByteArray) (e : Ending) (w' : World) : Prop :=
  e = .returned (.int .i64 0) ∧ ∃ F' A' c', PtAt w' B gp gw g F' n m (ps ++ [(first + lastOf (cur R T), ofL (frameL (84 :: bl s)))]) ser boot first R (T ++ [84 :: bl s]) A' c' (l ++ [s]) ∧ Kept (PF gp gw F A l.length c) w w' ∧ (∀ k, F' k → F k ∨ w.heap.size ≤ k)
set_option maxHeartbeats 4000000 in
theorem papp_any (h : PtAt w B gp gw g F n m ps ser boot first R T A c l) (hf : Fits n m ps) (hB : B ≤ w.heap.size) (h2 : first + lastOf (cur R T) ≤ 1073741824) (hl : l.length ≤ 1000000) (s : ByteArray) (hs : s.size < 65536) :
    Calls Try.prog 10 #[.pointer (some ⟨gp, 0, none⟩), .string s] w (PAppPost w B gp gw g F n m ps ser boot first R T A c l s) := by
  have hno := pnone_any h.p
  have hlo := fun W => long_any W s false (decide_eq_false (by omega))
  have hap := lappend_any h.d h.wl h.log hf h.f1 h2 (ofL (84 :: bl s)) (by rw [ofL_sz]; simp [size_bl]; omega)
  rw [bl_ofL] at hap
  have c0 : w.cell? ⟨gp, 0, none⟩ = some (.pointer (some ⟨gw, 0, none⟩)) := h.p.cell 0
  have q1 : ¬ 9223372036854775807 < (⟨#[84]⟩ : ByteArray).size + s.size := by show ¬ _ < 1 + _; omega
  have H := Lib.hid h; have HNO := Lib.hid hno; have HLO := Lib.hid hlo; have HAP := Lib.hid hap; have HF := Lib.hid hf
  have hM : l.length + 1 ≤ maxLen := by unfold maxLen; omega
  have hY : (l.length + 1) * 16 ≤ 140737488355328 := by omega
  have HMX := Lib.hid hM; have HY := Lib.hid hY
  clear h hno hlo hap hf hM hY
  go_enter Try.func10, Try.ntmps10
  go_wp2_with fail
  refine HNO.out.mono ?_
  rintro e w' ⟨rfl, rfl⟩
  go_wp2_with fail
  refine (HLO.out _).mono ?_
  rintro e w' ⟨rfl, rfl⟩
  go_wp2_with fail
  rw [cat84]
  refine HAP.out.mono ?_
  rintro e w3 ⟨rfl, F3, hd3, hG3, hw3, hk3⟩
  have hp3 := H.out.p.kept hk3 (fun hh => by rcases hh with hh | hh; exact H.out.gp_not.1 hh; exact H.out.gp_not.2.2 hh)
  have hr3 := own_kept H.out.row.1 hk3 (fun k hk hh => by rcases hh with hh | hh; exact (H.out.row_not hk).1 hh; exact (H.out.row_not hk).2.2 hh)
  have d3 : w3.cell? ⟨gp, 3, none⟩ = some (.slice A l.length c) := hp3.cell 3
  have f3 := hp3.frozen 3
  have hgl := hp3.lt
  have HD3 := Lib.hid hd3; have HG3 := Lib.hid hG3; have HW3 := Lib.hid hw3; have HK3 := Lib.hid hk3; have HP3 := Lib.hid hp3; have HR3 := Lib.hid hr3
  have HOW := Lib.hid (own_kept hr3 (F := NoF) ((Kept.refl _ w3).alloc (.cells #[.string s] 9)) (fun _ _ z => z))
  clear hd3 hG3 hw3 hk3 hp3 hr3 q1 c0
  go_wp2_with (at_builtin; refine list_append_src elemStr (.tmp 26) (.tmp 28) rfl rfl (Value.slice A l.length c) rfl HOW.out 1 rfl (Src.of_has (m := 1) (Has.new w3 9 #[.string s]) rfl) (one_str _) HMX.out HY.out ?_; intro A9 c9 w9 ho9 hg9 ha9; have hkr : Kept (fun k => (Value.slice A l.length c).ownBlock = some k) w3 w9 := Kept.grown ((Kept.refl _ w3).alloc _) hg9 (fun k hk => .inl hk); have hp9 := HP3.out.kept hkr (fun hk => (H.out.row_not hk).2.1 rfl); have d9 := hp9.cell 3; have f9 := hp9.frozen 3; have HO9 := Lib.hid ho9; have HA9 := Lib.hid ha9; have HKR := Lib.hid hkr; have HP9 := Lib.hid hp9; clear ho9 hg9 ha9 hkr hp9)
  go_ret
  have hkS : Kept (fun k => k = gp) w9 (w9.setCell ⟨gp, 3, none⟩ (.slice A9 (l.length + 1) c9)) := (Kept.refl _ w9).put (.inl rfl)
  have hlen : (l ++ [s]).length = l.length + 1 := by simp
  have hF3 : ∀ k, F3 k → ∀ t cs, Has w3 k t cs → t ≠ 66 → t ≠ 68 → False := fun k hk t cs hh e1 e2 => DiskAt.not HD3.out hh e1 e2 hk
  have hdr : ∀ k, F3 k → ¬ (Value.slice A l.length c).ownBlock = some k := fun k hk hb => by
    obtain ⟨cs, hh⟩ := own_has HR3.out hb
    exact hF3 k hk _ _ hh (by decide) (by decide)
  have hd9 := HD3.out.kept HKR.out hdr
  have hp9' := HP9.out.put 3 (.slice A9 (l.length + 1) c9)
  have hw9 := HW3.out.kept HKR.out (fun hk => by
    obtain ⟨cs, hh⟩ := own_has HR3.out hk
    exact Has.ne hh HW3.out (by decide) rfl)
  refine ⟨rfl, F3, A9, c9, ⟨hd9.kept hkS (fun k hk e => hF3 k hk _ _ (e ▸ HP3.out) (by decide) (by decide)), ?_, hw9.kept hkS (fun e => H.out.gp_not.2.2 e.symm), ⟨?_, ?_⟩, H.out.log.append (by simp [size_bl]; omega), H.out.low.append (by omega), H.out.f1, ?_, ?_⟩, ?_, fun k hk => HG3.out k hk⟩
  · rw [hlen]; exact hp9'
  · rw [hlen, List.map_append]
    exact own_kept HO9.out hkS (fun k hk e => by
      obtain ⟨cs, hh⟩ := own_has HO9.out hk
      exact Has.ne hh (e ▸ HP9.out) (by decide) rfl)
  · intro k hk
    rw [hlen] at hk
    rcases HA9.out with e | e
    · exact H.out.row.2 k (e.symm.trans hk)
    · have h9 := e.symm.trans hk
      injection h9 with h9
      have := HK3.out.size
      simp at h9
      omega
  · obtain ⟨k, h3, h4⟩ := H.out.tx
    exact ⟨k, by rw [ptx_snoc, ← h3, List.append_assoc], h4⟩
  · intro x hx
    rcases List.mem_append.1 hx with hx | hx
    · exact H.out.hs x hx
    · simp at hx; subst hx; exact hs
  · refine (((HK3.out.mono (fun k hk => ?_)).then (HKR.out.mono (fun k hk => ?_)))).then (hkS.mono (fun k hk => ?_))
    · rcases hk with hk | hk
      · exact .inl hk
      · exact .inr (.inr (.inl hk))
    · exact .inr (.inr (.inr hk))
    · exact .inr (.inl hk)
end
end Pt
end Go.Proofs.Ythgdkhgpboaplaa

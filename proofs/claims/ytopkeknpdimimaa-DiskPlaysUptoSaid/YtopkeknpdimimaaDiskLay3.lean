/- The document's disk: lay in general; Sync. -/
import Derived.Test.YtopkeknpdimimaaDiskLay2
set_option linter.unusedSimpArgs false
set_option linter.unusedVariables false
namespace Go.Proofs.Ytopkeknpdimimaa
open Go.RowKit Go.Maps
set_option maxRecDepth 100000
namespace Disk
variable {F G : Nat → Prop} {w : World} {g x n : Nat} {m : Safe} {fs ps : List Pc} {ser boot : Int}

/-- The files behind a lay. -/
def layR (fs : List Pc) (p : Pc) : List Pc :=
  if hit fs p.1 = true then fs.set (cnt fs p.1) (p.1, safeR fs p.1 ++ p.2) else fs.take (cnt fs p.1) ++ p :: fs.drop (cnt fs p.1)
theorem layR_len (fs : List Pc) (p : Pc) : (layR fs p).length ≤ fs.length + 1 := by
  unfold layR
  split
  · rw [List.length_set]; omega
  · simp; omega
theorem safeR_le {Z : Nat} (h : ∀ p ∈ fs, p.2.size ≤ Z) (f : Int) : (safeR fs f).size ≤ Z := by
  by_cases hh : hit fs f = true
  · exact h _ (List.mem_of_getElem? (hit_at hh))
  · unfold safeR
    rw [if_neg hh]
    exact Nat.zero_le _
theorem layR_le {Z : Nat} (h : ∀ p ∈ fs, p.2.size ≤ Z) (p : Pc) : ∀ q ∈ layR fs p, q.2.size ≤ Z + p.2.size := by
  intro q hq
  unfold layR at hq
  split at hq
  · rcases List.mem_or_eq_of_mem_set hq with hq | rfl
    · have := h q hq; omega
    · have := safeR_le h p.1
      simp
      omega
  · rcases List.mem_append.1 hq with hq | hq
    · have := h q (List.mem_of_mem_take hq); omega
    · rcases List.mem_cons.1 hq with rfl | hq
      · omega
      · have := h q (List.mem_of_mem_drop hq); omega
theorem lay_any (h : RefD w x G fs ps ser boot) (p : Pc) (Z : Nat) (hZ : ∀ q ∈ fs, q.2.size ≤ Z) (hlen : fs.length ≤ 1000000) (hsz : Z + p.2.size ≤ 4611686018427387904) :
    Calls Try.prog 32 #[.pointer (some ⟨x, 0, none⟩), .agg #[.int .i64 p.1, .string p.2]] w (AfterR w x G (.tuple #[]) (layR fs p) ps ser boot) := by
  unfold layR
  have := safeR_le hZ p.1
  by_cases hh : hit fs p.1 = true
  · rw [if_pos hh]
    exact rlay_hit h p.1 p.2 hh hlen (by omega)
  · rw [if_neg hh]
    exact rlay_new h p.1 p.2 (by simpa using hh) hlen (by omega)

/-- What Sync makes safe. -/
def syncR (fs : List Pc) : List Pc → List Pc
  | [] => fs
  | p :: ps => syncR (layR fs p) ps

set_option maxHeartbeats 2000000 in
theorem rsync_any (h : RefD w x G fs ps ser boot) (hlf : fs.length ≤ 500000) (hlen : ps.length ≤ 100000)
    (Z : Nat) (hZ : ∀ p ∈ fs, p.2.size ≤ Z) (hsz : Z + total ps ≤ 4611686018427387904) :
    Calls Try.prog 13 #[.pointer (some ⟨x, 0, none⟩)] w (AfterR w x G (.int .i64 (total ps)) (syncR fs ps) [] ser boot) := by
  have hpe : ∀ W, Kept NoF w W → _ := fun W hW => rpending_any (h.kept hW (fun _ _ x => x)) hlen (by omega)
  have HPE := Lib.hid hpe; clear hpe
  have hgs := h.lt
  have H := Lib.hid h; clear h
  have HZ := Lib.hid hZ; clear hZ
  go_enter Try.func13, Try.ntmps13
  go_wp2_with fail
  refine (HPE.out _ (Kept.refl _ _)).mono ?_
  rintro e w0 ⟨rfl, rfl⟩
  go_wp2_with fail
  go_loopw [4] (fun v4 wr => ∃ (i : Nat) (fi : List Pc) (G' : Nat → Prop), i ≤ ps.length ∧ v4 = .int .i64 i ∧ RefD wr x G' fi ps ser boot ∧ Grows w G G' ∧ Kept G w wr ∧ syncR fs ps = syncR fi (ps.drop i) ∧ fi.length ≤ fs.length + i ∧ (∀ p ∈ fi, p.2.size ≤ Z + total (ps.take i))) (fun v4 _ => ps.length - (intOf v4).toNat)
  case atStart => exact ⟨0, fs, G, Nat.zero_le _, rfl, H.out, Grows.refl _ _, Kept.refl _ _, rfl, Nat.le_refl _, by simpa [total] using HZ.out⟩
  case round =>
    obtain ⟨i, fi, G', hi, rfl, hr, hgr, hk, hcr, hfl, hzi⟩ := hrel
    obtain ⟨A, c, B, d, hF, hg, ho, hp⟩ := id hr
    have d1 : wr.cell? ⟨x, 1, none⟩ = some (.slice B ps.length d) := hg.cell 1
    have hf1 := hg.frozen 1
    have HG := Lib.hid hg; clear hg
    have HO := Lib.hid ho; clear ho
    have HF := Lib.hid hF; clear hF
    have HGR := Lib.hid hgr; clear hgr
    have HK := Lib.hid hk; clear hk
    have HZI := Lib.hid hzi; clear hzi
    by_cases hil : i < ps.length
    · obtain ⟨q, hq⟩ : ∃ q, ps[i]? = some q := ⟨_, List.getElem?_eq_getElem hil⟩
      obtain ⟨ad, rfl, hl1, e0, e1⟩ := pc_cells (Src.of_own hp) (by omega) i q hq
      have HP := Lib.hid hp; clear hp
      have ht := total_take ps (i + 1)
      rw [take_snoc hq, total_snoc] at ht
      have HT := Lib.hid (take_snoc hq)
      rw [drop_cons hq, syncR] at hcr
      have HCR := Lib.hid hcr; clear hcr
      have hla : ∀ W, Kept NoF wr W → _ := fun W hW => lay_any (hr.kept hW (fun _ _ x => x)) q _ HZI.out (by omega) (by omega)
      have HLA := Lib.hid hla; clear hla hr
      clear hq
      go_wp2_with fail
      refine (HLA.out _ (Kept.refl _ _)).mono ?_
      rintro e w2 ⟨rfl, G2, hr2, hg2, hk2⟩
      have hks : w.heap.size ≤ wr.heap.size := HK.out.size
      have HR2 := Lib.hid hr2; clear hr2
      have HG2 := Lib.hid hg2; clear hg2
      have HK2 := Lib.hid hk2; clear hk2
      go_wp2_with fail
      go_roundw
      case rel => exact ⟨i + 1, _, G2, by omega, by go_num, HR2.out, HGR.out.trans HG2.out hks, HK.out.trans HK2.out HGR.out, HCR.out, by have := layR_len fi q; omega, by rw [HT.out, total_snoc, ← Nat.add_assoc]; exact layR_le HZI.out q⟩
      case measure => simp [intOf]; omega
    · obtain rfl : i = ps.length := by omega
      have HCR := Lib.hid hcr; clear hcr
      have HP := Lib.hid hp; clear hp hr
      go_wp2_with fail
      go_ret
      have hz := HCR.out
      rw [List.drop_length, syncR] at hz
      rw [hz]
      refine ⟨rfl, fun k => k = x ∨ (Value.slice A fi.length c).ownBlock = some k, ⟨A, c, none, 0, fun k => by simp [Value.ownBlock], ?_, ?_, ⟨rfl, .inl ⟨rfl, rfl⟩⟩⟩, ?_, ?_⟩
      · ((repeat (first | with_reducible exact HG.out | with_reducible apply Has.put_of | with_reducible apply Has.past | with_reducible apply Has.drewN | with_reducible apply Has.drew | with_reducible apply Has.alloc)) <;> first | omega | rfl)
      · exact own_kept HO.out (F := fun k => k = x) (by (repeat' (first | with_reducible exact Kept.refl _ _ | with_reducible refine Kept.put ?_ ?_ | with_reducible refine Kept.drewN ?_ _ | with_reducible refine Kept.drew ?_ | with_reducible refine Kept.alloc ?_ _ | (exact .inl rfl) | (right; simp; done)))) fun k hk e => own_ne HO.out HG.out (by decide) (by rw [hk, e])
      · rintro k (rfl | hk)
        · exact HGR.out _ ((HF.out _).2 (.inl rfl))
        · exact HGR.out _ ((HF.out _).2 (.inr (.inl hk)))
      · refine HK.out.put ?_
        exact HGR.out _ ((HF.out _).2 (.inl rfl))
end Disk
end Go.Proofs.Ytopkeknpdimimaa


/- The document's disk: lay. -/
import Derived.Test.YtopkeknpdimimaaDisk6
import Derived.BigRegion
import Derived.Deep.RegionLaw
set_option linter.unusedSimpArgs false
set_option linter.unusedVariables false
namespace Go.Proofs.Ytopkeknpdimimaa
open Go.RowKit Go.Maps
set_option maxRecDepth 100000
namespace Disk
variable {F G : Nat → Prop} {w : World} {g x n : Nat} {m : Safe} {fs ps : List Pc} {ser boot : Int}

theorem own_set {base e size c j : Nat} {xs : List Value} {u : Value} (h : w.ownsRow base e size (.slice (some ⟨g, 0, none⟩) n c) n xs) : (w.setCell ⟨g, j, none⟩ u).ownsRow base e size (.slice (some ⟨g, 0, none⟩) n c) n (xs.set j u) := by
  refine ⟨by rw [List.length_set]; exact h.1, ?_⟩
  rcases h.2 with ⟨hv, _⟩ | ⟨g', cap, cur, hv, hb, hg, hn, hm, hs, htk⟩
  · cases hv
  · injection hv with h1 h2 h3
    injection h1 with h1
    injection h1 with h1
    subst h1
    subst h3
    refine .inr ⟨g, c, cur.setIfInBounds j u, rfl, hb, Has.put (show Has w g e cur from hg) j u, hn, hm, by simpa using hs, ?_⟩
    rw [Array.toList_setIfInBounds, List.take_set, htk]
theorem pcells_set {f : Int} {t s0 : ByteArray} : ∀ (fs : List Pc) (k : Nat), fs[k]? = some (f, s0) → pcells (fs.set k (f, t)) = (pcells fs).set (k * 2 + 1) (.string t)
  | [], k, h => by simp at h
  | a :: fs, 0, h => by
    simp at h
    subst h
    rfl
  | a :: fs, k + 1, h => by
    have ih := pcells_set fs k (t := t) (by simpa using h)
    have e : (k + 1) * 2 + 1 = k * 2 + 1 + 1 + 1 := by omega
    show Value.int .i64 a.1 :: Value.string a.2 :: pcells (fs.set k (f, t)) = (Value.int .i64 a.1 :: Value.string a.2 :: pcells fs).set ((k + 1) * 2 + 1) _
    rw [e, ih]
    rfl

set_option maxHeartbeats 2000000 in
theorem rlay_hit (h : RefD w x G fs ps ser boot) (f : Int) (s : ByteArray) (hh : hit fs f = true) (hlen : fs.length ≤ 1000000) (hsz : (safeR fs f).size + s.size ≤ 4611686018427387904) :
    Calls Try.prog 32 #[.pointer (some ⟨x, 0, none⟩), .agg #[.int .i64 f, .string s]] w (AfterR w x G (.tuple #[]) (fs.set (cnt fs f) (f, safeR fs f ++ s)) ps ser boot) := by
  have hfi : ∀ W, Kept NoF w W → _ := fun W hW => find_any (h.kept hW (fun _ _ x => x)) f hlen
  rw [hh] at hfi
  have HFI := Lib.hid hfi; clear hfi
  have hq := hit_at hh
  obtain ⟨A, c, B, d, hF, hg, ho, hp⟩ := h
  have hkl : cnt fs f < fs.length := (List.getElem?_eq_some_iff.1 hq).1
  obtain ⟨rb, cap, hv, _, hrl⟩ := ho.form (by omega)
  injection hv with hA _ hC
  subst hA
  subst hC
  obtain ⟨ad, e, hl1, e0, e1⟩ := pc_cells (Src.of_own ho) (by omega) (cnt fs f) _ hq
  injection e with e
  subst e
  obtain ⟨k, hk⟩ : ∃ k, cnt fs f = k := ⟨_, rfl⟩
  obtain ⟨S, hS⟩ : ∃ S, safeR fs f = S := ⟨_, rfl⟩
  rw [hk] at hkl e0 e1 HFI ⊢
  rw [hS] at e1 hsz ⊢
  rw [hk, hS] at hq
  have HQ := Lib.hid hq
  have hxr : x ≠ rb := fun e => own_ne ho hg (by decide) (by rw [e]; rfl)
  have hapP : ∀ k', (Value.slice B ps.length d).ownBlock = some k' → k' ≠ rb := fun k' hk' e => rows_apart ho hp (by decide) (k := rb) rfl (by rw [hk', e])
  have HAP := Lib.hid hapP; clear hapP
  have HG := Lib.hid hg; clear hg
  have HO := Lib.hid ho; clear ho
  have HP := Lib.hid hp; clear hp
  have HF := Lib.hid hF; clear hF hq hh hk hS
  have ea : ∀ j, ((⟨rb, 0, none⟩ : Addr).add j) = ⟨rb, j, none⟩ := fun j => by unfold Addr.add; split <;> simp_all
  rw [ea] at e1
  clear ea e0
  dsimp only at e1
  go_enter Try.func32, Try.ntmps32
  go_wp2_with fail
  refine (HFI.out _ ((Kept.refl _ _).alloc _)).mono ?_
  rintro e w1 ⟨rfl, hk1⟩
  have hbx := (Has.new w 64 #[.int .i64 f, .string s]).kept hk1 (fun x => x)
  have b1 : w1.cell? ⟨w.heap.size, 1, none⟩ = some (.string s) := hbx.cell 1
  have hk2 : Kept NoF w w1 := ((Kept.refl _ _).alloc _).then hk1
  have d0 : w1.cell? ⟨x, 0, none⟩ = some (.slice (some ⟨rb, 0, none⟩) fs.length c) := (HG.out.kept hk2 (fun x => x)).cell 0
  have d1 : w1.cell? ⟨rb, k * 2 + 1, none⟩ = some (.string S) := (World.cell?_of_block (a := ⟨rb, k * 2 + 1, none⟩) (hk2.block rb hrl (fun x => x))).trans e1
  have hnl : ¬ 9223372036854775807 < S.size + s.size := by omega
  have f1 : w1.frozen? ⟨rb, k * 2 + 1, none⟩ = false := by
    obtain ⟨_, hv | ⟨g, cap, cur, hv, _, hgg, _⟩⟩ := own_kept HO.out hk2 (fun _ _ x => x)
    · cases hv.1
    · injection hv with hv
      injection hv with hv
      injection hv with hv
      subst hv
      exact Has.frozen (show Has w1 rb _ cur from hgg) _
  clear hbx
  go_wp2_with fail
  go_region
  all_goals
    go_end0
    refine ⟨rfl, G, ⟨some ⟨rb, 0, none⟩, c, B, d, ?_, ?_, ?_, ?_⟩, Grows.refl _ _, ?_⟩
    · intro k'
      rw [List.length_set]
      exact HF.out k'
    · rw [List.length_set]
      ((repeat (first | with_reducible exact (HG.out.kept hk2 (fun x => x)) | with_reducible apply Has.put_of | with_reducible apply Has.past | with_reducible apply Has.drewN | with_reducible apply Has.drew | with_reducible apply Has.alloc)) <;> first | omega | rfl)
    · rw [List.length_set, pcells_set fs k HQ.out]
      first
        | exact own_kept (own_set (own_kept HO.out hk2 (fun _ _ x => x))) (F := NoF) (by (repeat' (first | with_reducible exact Kept.refl _ _ | with_reducible refine Kept.put ?_ ?_ | with_reducible refine Kept.drewN ?_ _ | with_reducible refine Kept.drew ?_ | with_reducible refine Kept.alloc ?_ _ | (fail) | (right; simp; done)))) (fun _ _ x => x)
        | exact own_set (own_kept (own_kept HO.out hk2 (fun _ _ x => x)) (F := NoF) (by (repeat' (first | with_reducible exact Kept.refl _ _ | with_reducible refine Kept.put ?_ ?_ | with_reducible refine Kept.drewN ?_ _ | with_reducible refine Kept.drew ?_ | with_reducible refine Kept.alloc ?_ _ | (fail) | (right; simp; done)))) (fun _ _ x => x))
    · exact own_kept (own_kept HP.out hk2 (fun _ _ x => x)) (F := fun k => k = rb) (by (repeat' (first | with_reducible exact Kept.refl _ _ | with_reducible refine Kept.put ?_ ?_ | with_reducible refine Kept.drewN ?_ _ | with_reducible refine Kept.drew ?_ | with_reducible refine Kept.alloc ?_ _ | (exact .inl rfl) | (right; simp; done)))) fun k' hk' e => HAP.out k' hk' e
    · have hgr : G rb := (HF.out rb).2 (.inr (.inl rfl))
      exact (hk2.mono fun _ x => x.elim).then (by (repeat' (first | with_reducible exact Kept.refl _ _ | with_reducible refine Kept.put ?_ ?_ | with_reducible refine Kept.drewN ?_ _ | with_reducible refine Kept.drew ?_ | with_reducible refine Kept.alloc ?_ _ | (exact .inl hgr) | (right; simp; done))))
end Disk
end Go.Proofs.Ytopkeknpdimimaa

/- The document's disk: Crash. -/
import Derived.Test.YtopkeknpdimimaaDiskP
import Derived.StillTailTactics
set_option linter.unusedSimpArgs false
set_option linter.unusedVariables false
namespace Go.Proofs.Ytopkeknpdimimaa
open Go.RowKit Go.Maps
set_option maxRecDepth 100000
namespace Disk
variable {F G : Nat → Prop} {w : World} {g x n : Nat} {m : Safe} {fs ps : List Pc} {ser boot : Int}

theorem rcrash_end {G' : Nat → Prop} {W W1 : World} {fi : List Pc} (hr : RefD W x G' fi ps ser boot) (hgr : Grows w G G') (hk : Kept G w W) (b : Int)
    (hW : W1 = (W.setCell ⟨x, 1, none⟩ (.slice none 0 0)).setCell ⟨x, 3, none⟩ (.int .i64 b)) : AfterR w x G (.tuple #[]) fi [] ser b (.returned (.tuple #[])) W1 := by
  obtain ⟨A, c, B, d, hF, hg, ho, hp⟩ := hr
  subst hW
  refine ⟨rfl, fun k => k = x ∨ (Value.slice A fi.length c).ownBlock = some k, ⟨A, c, none, 0, fun k => by simp [Value.ownBlock], ?_, ?_, ⟨rfl, .inl ⟨rfl, rfl⟩⟩⟩, ?_, ?_⟩
  · ((repeat (first | with_reducible exact hg | with_reducible apply Has.put_of | with_reducible apply Has.past | with_reducible apply Has.drewN | with_reducible apply Has.drew | with_reducible apply Has.alloc)) <;> first | omega | rfl)
  · exact own_kept ho (F := fun k => k = x) (by (repeat' (first | with_reducible exact Kept.refl _ _ | with_reducible refine Kept.put ?_ ?_ | with_reducible refine Kept.drewN ?_ _ | with_reducible refine Kept.drew ?_ | with_reducible refine Kept.alloc ?_ _ | (exact .inl rfl) | (right; simp; done)))) fun k hk e => own_ne ho hg (by decide) (by rw [hk, e])
  · rintro k (rfl | hk)
    · exact hgr _ ((hF _).2 (.inl rfl))
    · exact hgr _ ((hF _).2 (.inr (.inl hk)))
  · exact (hk.put (hgr _ ((hF _).2 (.inl rfl)))).put (hgr _ ((hF _).2 (.inl rfl)))

theorem AfterR.kept {v : Value} {e : Ending} {W W1 : World} (h : AfterR w x G v fs ps ser boot e W) (hk : Kept NoF W W1) : AfterR w x G v fs ps ser boot e W1 := by
  obtain ⟨he, G', hr, hg, hk'⟩ := h
  exact ⟨he, G', hr.kept hk (fun _ _ x => x), hg, hk'.then (hk.mono fun _ x => x.elim)⟩

set_option maxHeartbeats 2000000 in
theorem rcrash_any (h : RefD w x G fs ps ser boot) (h0 : 0 ≤ boot) (h1 : boot ≤ 1073741824) (K : Int) (hK : K ≤ 9223372036854775807) (hlf : fs.length ≤ 500000) (hlen : ps.length ≤ 100000)
    (Z : Nat) (hZ : ∀ p ∈ fs, p.2.size ≤ Z) (hsz : Z + total ps ≤ 4611686018427387904) :
    Calls Try.prog 17 #[.pointer (some ⟨x, 0, none⟩), .int .i64 K] w (AfterR w x G (.tuple #[]) (crashR fs (max K 0).toNat ps) [] ser (min (boot + 1) 1073741824)) := by
  have hgs := h.lt
  have H := Lib.hid h; clear h
  have HZ := Lib.hid hZ; clear hZ
  obtain ⟨L, hL, hLm⟩ : ∃ L : Nat, max K 0 = L ∧ L ≤ 9223372036854775807 := ⟨(max K 0).toNat, by omega, by omega⟩
  rw [hL, Int.toNat_natCast]
  have hmx : ∀ (W : World) (ts : Array TypeId) (t : TypeId), (Builtin.max_ ts t #[.int .i64 K, .int .i64 0]).run Try.prog W = .ok (.int .i64 L) W := by
    intro W ts t
    rw [run_max_int2, ← hL]
    split
    · rw [show max K 0 = 0 by omega]
    · rw [show max K 0 = K by omega]
  clear hL
  obtain ⟨T, hT⟩ : ∃ T, min (boot + 1) 1073741824 = T := ⟨_, rfl⟩
  have hmn : ∀ (W : World) (ts : Array TypeId) (t : TypeId), (Builtin.min_ ts t #[.int .i64 (boot + 1), .int .i64 1073741824]).run Try.prog W = .ok (.int .i64 T) W := by
    intro W ts t
    rw [run_min_int2]
    split
    · rw [← hT, show min (boot + 1) 1073741824 = 1073741824 by omega]
    · rw [← hT, show min (boot + 1) 1073741824 = boot + 1 by omega]
  rw [hT]
  clear hT
  go_enter Try.func17, Try.ntmps17
  go_wp2_with fail
  clear hmx
  go_loopw [4, 5, 6] (fun v4 v5 v6 wr => ∃ (i left : Nat) (fi : List Pc) (G' : Nat → Prop), i ≤ ps.length ∧ left ≤ 9223372036854775807 ∧ v5 = .int .i64 i ∧ v4 = .int .i64 left ∧ RefD wr x G' fi ps ser boot ∧ Grows w G G' ∧ Kept G w wr ∧ crashR fs L ps = crashR fi left (ps.drop i) ∧ fi.length ≤ fs.length + i ∧ (∀ p ∈ fi, p.2.size ≤ Z + total (ps.take i))) (fun _ v5 _ _ => ps.length - (intOf v5).toNat)
  case atStart => exact ⟨0, L, fs, G, Nat.zero_le _, hLm, rfl, rfl, H.out, Grows.refl _ _, Kept.refl _ _, rfl, Nat.le_refl _, by simpa [total] using HZ.out⟩
  case round =>
    obtain ⟨i, left, fi, G', hi, hlm, rfl, rfl, hr, hgr, hk, hcr, hfl, hzi⟩ := hrel
    obtain ⟨A, c, B, d, hF, hg, ho, hp⟩ := id hr
    have d1 : wr.cell? ⟨x, 1, none⟩ = some (.slice B ps.length d) := hg.cell 1
    have d3 : wr.cell? ⟨x, 3, none⟩ = some (.int .i64 boot) := hg.cell 3
    have hf1 := hg.frozen 1
    have hf3 := hg.frozen 3
    have hgl := hg.lt
    have HGR := Lib.hid hgr; clear hgr
    have HK := Lib.hid hk; clear hk
    have HZI := Lib.hid hzi; clear hzi
    clear ho hF hg
    have HR := Lib.hid hr; clear hr
    by_cases hil : i < ps.length
    · obtain ⟨q, hq⟩ : ∃ q, ps[i]? = some q := ⟨_, List.getElem?_eq_getElem hil⟩
      obtain ⟨ad, rfl, hl1, e0, e1⟩ := pc_cells (Src.of_own hp) (by omega) i q hq
      clear hp
      have ht := total_take ps (i + 1)
      rw [take_snoc hq, total_snoc] at ht
      have HT := Lib.hid (take_snoc hq)
      rw [drop_cons hq, crashR] at hcr
      have hla : ∀ W, Kept NoF wr W → _ := fun W hW => lay_any (HR.out.kept hW (fun _ _ x => x)) q _ HZI.out (by omega) (by omega)
      have hlb : ∀ W, Kept NoF wr W → _ := fun W hW => lay_any (HR.out.kept hW (fun _ _ x => x)) (q.1, q.2.extract 0 left) _ HZI.out (by omega) (by show Z + total (ps.take i) + (q.2.extract 0 left).size ≤ _; rw [ByteArray.size_extract]; omega)
      obtain ⟨q1, q2⟩ := q
      dsimp only at e0 e1 ht hcr hla hlb
      clear hq
      have HCR := Lib.hid hcr; clear hcr
      have HLA := Lib.hid hla; clear hla
      have HLB := Lib.hid hlb; clear hlb
      by_cases hlt : left < q2.size
      · by_cases hl0 : left = 0
        · subst hl0
          clear HLA HLB
          go_wp2_with fail
          go_end0
          have hz := HCR.out
          simp only [hlt, if_true] at hz
          rw [hz]
          exact (rcrash_end HR.out HGR.out HK.out T rfl).kept ((Kept.refl _ _).alloc _)
        · have hl0' : ((left : Int) == 0) = false := by simpa using hl0
          have hle : left ≤ q2.size := by omega
          clear HLA
          go_wp2_with fail
          refine wp_region_still_tail 8 (by kernel_rfl) (by kernel_rfl) ?_
          simp only [List.take_succ_cons, List.take_zero, List.drop_succ_cons, List.drop_zero]
          change wpStill _ _ (World.drew (wr.alloc _)) _ _ _
          repeat still_step
          refine wpStill_nil ?_
          change wpList _ _ _ _ _ (World.drew (wr.alloc _))
          go_wp2_with fail
          refine (HLB.out _ ((Kept.refl _ _).alloc _).drew).mono ?_
          rintro e w2 ⟨rfl, G2, hr2, hg2, hk2⟩
          obtain ⟨A2, c2, B2, d2, _, hgx, _, _⟩ := id hr2
          have r1 : w2.cell? ⟨x, 1, none⟩ = some (.slice B2 ps.length d2) := hgx.cell 1
          have hgl2 := hgx.lt
          have r3 : w2.cell? ⟨x, 3, none⟩ = some (.int .i64 boot) := hgx.cell 3
          have rf1 := hgx.frozen 1
          have rf3 := hgx.frozen 3
          have hks : w.heap.size ≤ wr.heap.size := HK.out.size
          have HR2 := Lib.hid hr2; clear hr2
          have HG2 := Lib.hid hg2; clear hg2
          have HK2 := Lib.hid hk2; clear hk2
          clear hgx
          go_wp2_with fail
          go_end0
          have hz := HCR.out
          simp only [hlt, hl0, if_true, if_false] at hz
          rw [hz]
          exact rcrash_end HR2.out (HGR.out.trans HG2.out (by simp; omega)) ((HK.out.alloc _).drew.trans HK2.out HGR.out) T rfl
      · clear HLB
        go_wp2_with fail
        refine (HLA.out _ ((Kept.refl _ _).alloc _)).mono ?_
        rintro e w2 ⟨rfl, G2, hr2, hg2, hk2⟩
        have hbx := (Has.new wr 64 #[.int .i64 q1, .string q2]).kept hk2 (fun e => by have := HR.out.lt _ e; omega)
        have b1 : w2.cell? ⟨wr.heap.size, 1, none⟩ = some (.string q2) := hbx.cell 1
        have hks : w.heap.size ≤ wr.heap.size := HK.out.size
        have HR2 := Lib.hid hr2; clear hr2
        have HG2 := Lib.hid hg2; clear hg2
        have HK2 := Lib.hid hk2; clear hk2
        clear hbx
        go_wp2_with fail
        have hcr' : crashR fs L ps = crashR (layR fi (q1, q2)) (left - q2.size) (ps.drop (i + 1)) := by
          have hz := HCR.out
          simp only [hlt, if_false] at hz
          exact hz
        go_roundw
        case rel => exact ⟨i + 1, left - q2.size, _, G2, by omega, by omega, by go_num, by go_num, HR2.out, HGR.out.trans HG2.out (by simp; omega), (HK.out.alloc _).trans HK2.out HGR.out, hcr', by have := layR_len fi (q1, q2); omega, by rw [HT.out, total_snoc, ← Nat.add_assoc]; exact layR_le HZI.out (q1, q2)⟩
        case measure => simp [intOf]; omega
    · obtain rfl : i = ps.length := by omega
      go_wp2_with fail
      go_end0
      have hz := hcr
      rw [List.drop_length, crashR] at hz
      rw [hz]
      exact rcrash_end HR.out HGR.out HK.out T rfl
end Disk
end Go.Proofs.Ytopkeknpdimimaa

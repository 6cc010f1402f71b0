
/- The checkpointed log: New, Save. -/
import Derived.Test.YthgdkhgpboaplaaPt7
set_option linter.unusedSimpArgs false
set_option linter.unusedVariables false
namespace Go.Proofs.Ythgdkhgpboaplaa
open Go.RowKit
set_option maxRecDepth 100000
namespace Pt
open Disk Fr Vn Ops Wl
theorem ptx_small {k : Nat} (hk : k < 18446744073709551616) {l : List ByteArray} (h : ∀ s ∈ l, s.size < 65536) : ∀ t ∈ ptx k l, t.length ≤ 65536 := by
  intro t ht
  unfold ptx at ht
  rcases List.mem_cons.1 ht with rfl | ht
  · have := put_le hk; simp; omega
  · rw [List.mem_map] at ht
    obtain ⟨s, hs, rfl⟩ := ht
    have := h s hs
    simp [size_bl]; omega
theorem cur_nil_len (T : List (List UInt8)) : (cur [] T).length ≤ T.length := by
  have := cur_grow [] T
  simpa using this
theorem mis_keep {f b : Int} {R : St} {m : Disk.Safe} (h : MIs f R m) (hb : f + R.length ≤ b) : MIs f R (keepM f b m) := by
  intro i
  unfold keepM
  by_cases hi : f ≤ f + (i : Int) ∧ f + (i : Int) < b
  · rw [if_pos hi]; exact h i
  · rw [if_neg hi]
    unfold fileAt
    rw [if_neg (by omega)]
/-- What begin leaves, as a log of its own. -/
theorem log_begun {f : Int} {m : Disk.Safe} {ps : List Disk.Pc} {k : Nat} {l : List ByteArray} (hk : k < 18446744073709551616) (hl : ∀ s ∈ l, s.size < 65536) (h : Log f [] [] m ps) : Log f (cur [] (ptx k l)) [] (syncM m (ps ++ pcsOf f [] (ptx k l))) [] := by
  have := (log_of h (ptx_small hk hl)).sync
  exact this
theorem log_kept {f b : Int} {R : St} {m : Disk.Safe} (h : Log f R [] m []) (hb : f + R.length ≤ b) : Log f R [] (keepM f b m) [] := ⟨mis_keep h.safe hb, rfl, h.ok, h.T⟩
section
variable {w : World} {B gp gw g n c : Nat} {F : Nat → Prop} {m : Disk.Safe} {ps : List Disk.Pc} {ser boot first : Int} {R : St} {T : List (List UInt8)} {A : Option Addr} {l : List ByteArray}
/-- A point at a checkpoint's end. -/
def PNewPost (w : World) (g : Nat) (F : Nat → Prop) (n : Nat) (ser boot : Int) (e : Ending) (w' : World) : Prop :=
  ∃ gp gw F' m' A c, e = .returned (.tuple #[.pointer (some ⟨gp, 0, none⟩), .int .i64 0]) ∧ PtAt w' w.heap.size gp gw g F' (n + 1) m' [] ser boot 1 (cur [] (ptx 0 [])) [] A c [] ∧ w.heap.size ≤ gp ∧ w.heap.size ≤ gw ∧ (∀ k, F' k → F k ∨ w.heap.size ≤ k) ∧ Kept F w w'
set_option maxHeartbeats 2000000 in
theorem new_any' (hd : DiskAt w g F n (fun _ => none) [] ser boot) (hn : n ≤ 100000) : Calls Try.prog 8 #[.pointer (some ⟨g, 0, none⟩)] w (PNewPost w g F n ser boot) := by
  have hfi := files_any hd (fun p hp => by cases hp) hn (by decide)
  have HFI := Lib.hid hfi; have HD := Lib.hid hd
  clear hfi hd
  go_enter Try.func8, Try.ntmps8
  go_wp2_with fail
  refine HFI.out.mono ?_
  rintro e w1 ⟨fl, A, c, rfl, hfa, hown, hnew, hk1⟩
  have hfl : fl = [] := by
    rcases fl with _ | ⟨x, fl⟩
    · rfl
    · have := ((hfa.mem x).1 (by simp)).2
      simp [isFile] at this
  subst hfl
  obtain ⟨w2, hw2⟩ : ∃ w2, w1.alloc (.cells #[.pointer none, .pointer (some ⟨g, 0, none⟩), .int .i64 0, .slice none 0 0] 32) = w2 := ⟨_, rfl⟩
  have hk2 : Kept NoF w w2 := by rw [← hw2]; exact hk1.alloc _
  have hp2 : PAt w2 w1.heap.size (.pointer none) g 0 (.slice none 0 0) := by rw [← hw2]; exact Has.new _ _ _
  have hd2 := HD.out.kept hk2 (fun _ _ z => z)
  have hfit : Fits n (fun _ => none) [] := ⟨hn, by decide, fun f => Nat.zero_le _, fun p hp => by cases hp⟩
  have hbg := begin_any (.pointer none) (.slice none 0 0) hp2 hd2 (log_new 1) hfit none 0 [] (Src.nil _ _ _) (fun _ ad e => by cases e) (fun s hs => by cases hs) (by decide) (by decide) (by decide)
  have HBG := Lib.hid hbg; have HW2 := Lib.hid hw2; have HK2 := Lib.hid hk2; have HK1 := Lib.hid hk1.size
  clear hfa hown hnew hk1 hw2 hk2 hp2 hd2 hfit hbg
  go_wp2_with fail
  rw [HW2.out]
  refine HBG.out.mono ?_
  rintro e w3 ⟨rfl, F3, gw, A3, c3, hd3, hw3, hp3, hn3, hgw3, hg3, hk3⟩
  have hfin : PNewPost w g F n ser boot (.returned (.tuple #[.pointer (some ⟨w1.heap.size, 0, none⟩), .int .i64 0])) w3 := by
    refine ⟨w1.heap.size, gw, F3, _, A3, c3, rfl, ⟨hd3, hp3, hw3, ⟨hn3.1, fun k hk => Nat.le_trans HK2.out.size (hn3.2 k hk)⟩, log_begun (by decide) (fun s hs => by cases hs) (log_new 1), ?_, Int.le_refl _, ⟨0, by rw [cur_texts]; rfl, by rw [cur_texts]; decide⟩, fun s hs => by cases hs⟩, HK1.out, Nat.le_trans HK2.out.size hgw3, fun k hk => ?_, ?_⟩
    · have : LowN 1 (fun _ => none) ([] ++ pcsOf 1 [] (ptx 0 [])) := ⟨fun x hx => rfl, fun p hp => (pcsOf_mem 1 [] (ptx 0 []) (ptx_small (by decide) (fun s hs => by cases hs)) p hp).2.1⟩
      exact this.sync
    · rcases hg3 k hk with h | h
      · exact .inl h
      · exact .inr (Nat.le_trans HK2.out.size h)
    · exact (HK2.out.mono (fun _ z => z.elim)).trans hk3 (fun k hk => by rcases hk with h | h; exact .inl h; exact .inr (by rw [h]; exact HK1.out))
  have HFIN := Lib.hid hfin
  clear hd3 hw3 hp3 hn3 hgw3 hg3 hk3 hfin
  go_wp2
  go_ret2
  exact HFIN.out
end
end Pt
end Go.Proofs.Ythgdkhgpboaplaa

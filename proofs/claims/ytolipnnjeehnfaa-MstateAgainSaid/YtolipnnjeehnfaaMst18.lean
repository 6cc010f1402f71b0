/- A master's state; what a note does to it. -/
import Derived.Test.YtolipnnjeehnfaaMst17
set_option linter.unusedSimpArgs false
set_option linter.unusedVariables false
namespace Go.Proofs.Ytolipnnjeehnfaa
open Go.RowKit
set_option maxRecDepth 100000
namespace Mst
open Plan Vn Go.Sort
def StAt (w : World) (b : Nat) (F : Nat → Prop) (s : StR) : Prop := ∃ mA mc lA lc pA pc, (∀ k, F k ↔ (k = b ∨ RowOf (.slice mA s.ms.length mc) k ∨ RowOf (.slice lA s.lg.length lc) k ∨ RowOf (.slice pA s.pins.length pc) k)) ∧
  Has w b 62 (scells s mA mc lA lc pA pc true) ∧ w.ownsRow 0 86 2 (.slice mA s.ms.length mc) s.ms.length (mcells s.ms) ∧ w.ownsRow 0 3 1 (.slice lA s.lg.length lc) s.lg.length (ints s.lg) ∧ w.ownsRow 0 44 3 (.slice pA s.pins.length pc) s.pins.length (pcells s.pins)
theorem StAt.kept {w w' : World} {b : Nat} {F G : Nat → Prop} {s : StR} (h : StAt w b F s) (hk : Kept G w w') (hs : Sep F G) : StAt w' b F s := by
  obtain ⟨mA, mc, lA, lc, pA, pc, hF, hb, hm, hl, hp⟩ := h
  exact ⟨mA, mc, lA, lc, pA, pc, hF, hb.kept hk (hs b ((hF b).2 (.inl rfl))), own_kept hm hk (fun g hg => hs g ((hF g).2 (.inr (.inl hg)))), own_kept hl hk (fun g hg => hs g ((hF g).2 (.inr (.inr (.inl hg))))), own_kept hp hk (fun g hg => hs g ((hF g).2 (.inr (.inr (.inr hg)))))⟩
theorem StAt.still {w w' : World} {b : Nat} {F : Nat → Prop} {s : StR} (h : StAt w b F s) (hk : Kept NoF w w') : StAt w' b F s := h.kept hk (fun _ _ z => z)
theorem StAt.lt {w : World} {b : Nat} {F : Nat → Prop} {s : StR} (h : StAt w b F s) : ∀ k, F k → k < w.heap.size := by
  obtain ⟨mA, mc, lA, lc, pA, pc, hF, hb, hm, hl, hp⟩ := h
  intro k hk
  rcases (hF k).1 hk with rfl | h | h | h
  · exact hb.lt
  · exact own_lt hm h
  · exact own_lt hl h
  · exact own_lt hp h
theorem own_has {w : World} {base k size n : Nat} {e : TypeId} {v : Value} {xs : List Value} (h : w.ownsRow base e size v n xs) (hk : RowOf v k) : ∃ cs, Has w k e cs := by
  rcases h.2 with ⟨rfl, _⟩ | ⟨g, cap, cur, rfl, _, hh, _⟩
  · simp [RowOf, Value.ownBlock] at hk
  · obtain rfl : g = k := by simpa [RowOf, Value.ownBlock] using hk
    exact ⟨cur, hh⟩
/-- Lists that the walk is at home with. -/
structure SOk (s : StR) : Prop where
  m : s.ms.length ≤ 1000
  l : s.lg.length ≤ 1000
  p : s.pins.length ≤ 1000
def toldOf (s : StR) (c : Int) : AnsR := if c = 0 then s.t0 else if c = 1 then s.t1 else s.t2
def withTold (s : StR) (a : AnsR) : StR := if a.cl = 0 then { s with t0 := a } else if a.cl = 1 then { s with t1 := a } else { s with t2 := a }
/-- The answer to a note. -/
def applyE (s : StR) (x : NoteR) : Int :=
  if noteE x ≠ 0 then noteE x else
  if x.k = 1 then nextE s x else
  if x.k = 5 then (if anyId s.ms x.n = true then 0 else 7) else
  if x.k = 4 then (if x.at' < s.hz then 18 else 0) else
  if x.k = 6 then pinE s x.pin else
  if x.k = 7 then 0 else
  if x.k = 8 then (if x.said.req < (toldOf s x.said.cl).req then 18 else 0) else 11
/-- The state behind a note. -/
def applyS (s : StR) (x : NoteR) : StR :=
  if applyE s x ≠ 0 then s else
  if x.k = 1 then { s with ep := x.ep, ms := x.ms, fl := x.fl, lg := x.lg } else
  if x.k = 5 then { s with lg := trustL s.lg x.n } else
  if x.k = 4 then { s with hz := x.at' } else
  if x.k = 6 then pinS s x.pin else
  if x.k = 7 then { s with pins := freed s.pins x.n, top := max s.top x.n } else withTold s x.said
def ApplyPost (w : World) (b : Nat) (F : Nat → Prop) (s : StR) (x : NoteR) (e : Ending) (w' : World) : Prop :=
  ∃ F', e = .returned (.int .i64 (applyE s x)) ∧ StAt w' b F' (applyS s x) ∧ Grows w F F' ∧ Kept F w w'
theorem ApplyPost.bad {w w' : World} {b : Nat} {F : Nat → Prop} {s : StR} {x : NoteR} (hs : StAt w b F s) (h0 : applyE s x ≠ 0) (hk : Kept NoF w w') : ApplyPost w b F s x (.returned (.int .i64 (applyE s x))) w' := by
  refine ⟨F, rfl, ?_, Grows.refl _ _, Kept.up hk⟩
  unfold applyS
  rw [if_pos h0]
  exact hs.still hk
theorem apply_bad (w : World) (b : Nat) (F : Nat → Prop) (s : StR) (x : NoteR) (hs : StAt w b F s) (h : NOk w x) (h0 : noteE x ≠ 0) :
    Calls Try.prog 12 #[.pointer (some ⟨b, 0, none⟩), nagg x] w (ApplyPost w b F s x) := by
  have hE : applyE s x = noteE x := by unfold applyE; rw [if_pos h0]
  have hP : ∀ w', Kept NoF w w' → ApplyPost w b F s x (.returned (.int .i64 (noteE x))) w' := fun w' hk => by
    have := ApplyPost.bad hs (by rw [hE]; exact h0) hk
    rw [hE] at this
    exact this
  obtain ⟨mA, mc, lA, lc, pA, pc, hF, hb, hm, hl, hp⟩ := hs
  have hck := fun W (hW : Kept NoF w W) => ncheck_any W x (h.kept hW)
  have hnone := fun W (hW : Kept NoF w W) => none_any W b s mA mc lA lc pA pc true (hb.kept hW (fun z => z))
  obtain ⟨E, hE0⟩ : ∃ E, noteE x = E := ⟨_, rfl⟩
  rw [hE0] at hck hP h0
  obtain ⟨W0, hW0⟩ : ∃ W0, w.alloc (.cells (ncell x).toArray 48) = W0 := ⟨_, rfl⟩
  have hk0 : Kept NoF w W0 := by rw [← hW0]; (repeat' (first | with_reducible exact Kept.refl _ _ | with_reducible refine Kept.put ?_ ?_ | with_reducible refine Kept.drewN ?_ _ | with_reducible refine Kept.drew ?_ | with_reducible refine Kept.alloc ?_ _ | (fail) | (right; simp; done)))
  have hn0 : Has W0 w.heap.size 48 (ncell x).toArray := by rw [← hW0]; exact Has.new _ _ _
  clear hE hE0 h hm hl hp hb hF
  obtain ⟨k, n, at2, ep, mA2, mc2, ms, fl, lA2, lc2, lg, oA, oc, ⟨bcl, breq, ops⟩, ts, ⟨p1, p2, p3⟩, ⟨s1, s2, s3, s4⟩⟩ := x
  simp only [ncell] at hP hn0 hck
  have HP := Lib.hid hP; have HCK := Lib.hid hck; have HNO := Lib.hid hnone; have HK0 := Lib.hid hk0; have HN0 := Lib.hid hn0
  clear hP hck hnone hk0 hn0
  have h0' : (E != 0) = true := by simpa using h0
  go_enter Try.func12, Try.ntmps12
  go_wp2_with fail
  clear hW0
  refine (HNO.out _ HK0.out).mono ?_
  rintro e w2 ⟨rfl, hk⟩
  have hn2 := HN0.out.kept hk (fun z => z)
  have HN2 := Lib.hid hn2
  have HK := Lib.hid (HK0.out.then hk); clear hk hn2
  go_wp2_with (refine wpList_load_row rfl 48 (.tmp 3) rfl w.heap.size rfl 48 _ (0, 0) _ HN2.out Try.underlying48 rfl (by kernel_rfl) ?_)
  refine (HCK.out _ HK.out).mono ?_
  rintro e w3 ⟨rfl, hk⟩
  have HK3 := Lib.hid (HK.out.then hk); clear hk HK
  go_wp2
  go_ret
  exact HP.out _ HK3.out
end Mst
end Go.Proofs.Ytolipnnjeehnfaa

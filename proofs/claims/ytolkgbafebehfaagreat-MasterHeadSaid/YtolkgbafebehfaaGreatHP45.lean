/- Part 46 of what the proof needs. -/
import Derived.Test.YtolkgbafebehfaaGreatHP44
set_option linter.unusedSimpArgs false
set_option linter.unusedVariables false
set_option maxHeartbeats 32000000
set_option maxRecDepth 100000
namespace Go.Proofs.YtolkgbafebehfaaGreat
open Go.RowKit
set_option maxRecDepth 100000
namespace Mas
open Plan Vn Mst Wat IM Nte Msg
def deliver1 (M : MR) (i : Int) (x : MsgR) : MR :=
 if x.k = 2 then (if 0 <= i /\ i < 4 then beatM M i x else M)
 else if x.k = 15 then (if (0 <= i /\ i < 4) \/ (5 <= i /\ i < 8) then whereM M i else M)
 else if x.k = 11 \/ x.k = 12 \/ x.k = 13 then (if 5 <= i /\ i < 8 then askM M (i - 5) x else M)
 else M
def deliverM (M : MR) (i : Int) (x : MsgR) : MR := if chkM x = 0 then doneM (deliver1 M i x) else M
def deliverO (M : MR) (i : Int) (x : MsgR) : List OutR := if chkM x = 0 then (deliver1 M i x).out else []
def goneP (M : MR) (i : Nat) : Bool := anyId M.st.ms i && (inB (lateL M.ns) i || M.lost i || M.leaves i)
def serOf (M : MR) (i : Int) : Int := (M.serial i).getD 0
def joinP (M : MR) (i : Nat) : Bool := M.joins i && decide (0 < serOf M i)
def goneC (M : MR) (n : Nat) : List Int := ((List.range n).filter (goneP M)).map fun k : Nat => (k : Int)
def joinC (M : MR) (n : Nat) : List Mem := ((List.range n).filter (joinP M)).map fun k : Nat => ((k : Int),serOf M k)
def nextP (M : MR) : Plan.Next := nextOf M.st.ep M.st.ms M.st.fl M.st.lg (goneC M 4) (joinC M 4) M.last
def sweep1 (M : MR) (i : Nat) : MR := if anyId M.st.ms i then { M with ns := M.ns.set i 0,joins := fun y => !decide (y = (i : Int)) && M.joins y } else { M with leaves := fun y => !decide (y = (i : Int)) && M.leaves y }
def sweepN (M : MR) (n : Nat) : MR := (List.range n).foldl sweep1 M
def nextC (d : Plan.Next) : NoteR := confN d.ep d.l d.fl d.t
def cleared (M : MR) : MR := { M with marks := fun _ => none,lost := fun _ => false }
def nextM (M : MR) : MR := if (nextP M).e ≠ 0 then M else if applyE M.st (nextC (nextP M)) ≠ 0 then M else sweepN (cleared (writeM M (nextC (nextP M)))) 4
def marksL (M : MR) (n : Nat) : List Int := (M.st.ms.take n).map fun m => (M.marks m.1).getD 0
def known (M : MR) (n : Nat) : Bool := (M.st.ms.take n).all fun m => (M.marks m.1).isSome
def horNew (M : MR) : Int := Lea.horOf M.st.hz (marksL M M.st.ms.length) M.pins
def horizonM (M : MR) : MR := if known M M.st.ms.length = true then (if M.st.hz < horNew M then writeM M (hnote (horNew M)) else M) else M
def tick0 (M : MR) : MR := { M with pins := Lea.ticked M.pins }
def unpinN (M : MR) (l : List Int) : MR := l.foldl (fun M id => writeM M (nunpin id)) M
def tick1 (M : MR) : MR := unpinN (tick0 M) (Lea.goneL M.pins)
def tick2 (M : MR) : MR := { tick1 M with ns := (tick1 M).ns.map bump,tk := bump (tick1 M).tk }
def tick3 (M : MR) : MR := horizonM (nextM (tick2 M))
def tellN (M : MR) (l : List Mem) : MR := l.foldl (fun M m => whereM M m.1) M
def tick4 (M : MR) : MR := tellN (tick3 M) (tick3 M).st.ms
def tickM (M : MR) : MR := doneM (tick4 M)
section
variable {M : MR} {k c : Nat}
theorem MOk.done (h : MOk M k) : MOk (doneM M) k := ⟨h.st,h.p3,h.pin,h.wat,h.last,h.marks,h.serial,h.cnt⟩
theorem MOk.deliver1 {w : World} (h : MOk M k) (i : Int) (x : MsgR) (hx : I64 x.ser) (hok : XOk w x) : MOk (deliver1 M i x) (k + 1) := by
 unfold Mas.deliver1
 split
 ·split
  ·exact h.beatM i x hx hok ‹_›
  ·exact h.mono (Nat.le_succ _)
 split
 ·split
  ·exact (h.send _ _).mono (Nat.le_succ _)
  ·exact h.mono (Nat.le_succ _)
 split
 ·split
  ·exact (h.askM _ x hok).mono (Nat.le_succ _)
  ·exact h.mono (Nat.le_succ _)
 ·exact h.mono (Nat.le_succ _)
theorem MOk.deliver {w : World} (h : MOk M k) (i : Int) (x : MsgR) (hx : I64 x.ser) (hok : XOk w x) : MOk (deliverM M i x) (k + 1) := by
 unfold deliverM
 split
 ·exact (h.deliver1 i x hx hok).done
 ·exact h.mono (Nat.le_succ _)
theorem goneC_succ (M : MR) (i : Nat) : goneC M (i + 1) = if goneP M i = true then goneC M i ++ [(i : Int)] else goneC M i := by
 unfold goneC
 rw [List.range_succ,List.filter_append,List.map_append]
 by_cases h : goneP M i = true
 ·rw [if_pos h,List.filter_cons,if_pos h];rfl
 ·rw [if_neg h,List.filter_cons,if_neg h];simp
theorem joinC_succ (M : MR) (i : Nat) : joinC M (i + 1) = if joinP M i = true then joinC M i ++ [((i : Int),serOf M i)] else joinC M i := by
 unfold joinC
 rw [List.range_succ,List.filter_append,List.map_append]
 by_cases h : joinP M i = true
 ·rw [if_pos h,List.filter_cons,if_pos h];rfl
 ·rw [if_neg h,List.filter_cons,if_neg h];simp
theorem goneC_len (M : MR) (i : Nat) : (goneC M i).length <= i := by
 unfold goneC
 rw [List.length_map]
 exact Nat.le_trans (List.length_filter_le _ _) (by simp)
theorem joinC_len (M : MR) (i : Nat) : (joinC M i).length <= i := by
 unfold joinC
 rw [List.length_map]
 exact Nat.le_trans (List.length_filter_le _ _) (by simp)
theorem sweepN_succ (M : MR) (i : Nat) : sweepN M (i + 1) = sweep1 (sweepN M i) i := by unfold sweepN;rw [List.range_succ,List.foldl_append];rfl
theorem sweep1_st (M : MR) (i : Nat) : (sweep1 M i).st = M.st := by unfold sweep1;split <;> rfl
theorem sweepN_st (M : MR) (n : Nat) : (sweepN M n).st = M.st := by
 induction n with
 | zero => rfl
 | succ n ih => rw [sweepN_succ,sweep1_st,ih]
theorem sweep1_rest (M : MR) (i : Nat) : (sweep1 M i).out = M.out /\ (sweep1 M i).pins = M.pins /\ (sweep1 M i).lg = M.lg /\ (sweep1 M i).cnt = M.cnt := by unfold sweep1;split <;> exact ⟨rfl,rfl,rfl,rfl⟩
theorem sweepN_rest (M : MR) (n : Nat) : (sweepN M n).out = M.out /\ (sweepN M n).pins = M.pins /\ (sweepN M n).lg = M.lg /\ (sweepN M n).cnt = M.cnt := by
 induction n with
 | zero => exact ⟨rfl,rfl,rfl,rfl⟩
 | succ n ih =>
  obtain ⟨a,b,c,d⟩ := sweep1_rest (sweepN M n) n
  rw [sweepN_succ,a,b,c,d];exact ih
theorem MOk.sweep1 (h : MOk M k) (i : Nat) : MOk (sweep1 M i) k := by
 unfold Mas.sweep1
 split
 ·exact ⟨h.st,h.p3,h.pin,WOk.heard h.wat _,h.last,h.marks,h.serial,h.cnt⟩
 ·exact ⟨h.st,h.p3,h.pin,h.wat,h.last,h.marks,h.serial,h.cnt⟩
theorem MOk.sweepN (h : MOk M k) (n : Nat) : MOk (sweepN M n) k := by
 induction n with
 | zero => exact h
 | succ n ih => rw [sweepN_succ];exact ih.sweep1 n
theorem nextC_u {d : Plan.Next} (h : 0 <= d.fl /\ d.fl <= maxTs) : NU (nextC d) := nconf_u h
theorem nextP_fl (h : MOk M k) : 0 <= (nextP M).fl /\ (nextP M).fl <= maxTs := by
 have h1 := h.st.su.fl
 have h2 := h.last
 have h0 : (0 : Int) <= maxTs := by decide
 by_cases h3 : (nextP M).e = 0
 ·have h4 := next_is h3
  have h5 : (nextP M).fl = floorOf M.st.fl M.last := h4.flv
  rw [h5]
  unfold floorOf
  split <;> omega
 ·have h4 := next_bad h3
  have h5 : (nextP M).fl = 0 := h4.2.2.1
  rw [h5]
  exact ⟨Int.le_refl _,h0⟩
theorem MOk.cleared (h : MOk M k) : MOk (cleared M) k := ⟨h.st,h.p3,h.pin,h.wat,h.last,(fun i v hv => by cases hv),h.serial,h.cnt⟩
theorem MOk.nextM (h : MOk M k) : MOk (nextM M) k := by
 unfold Mas.nextM
 split
 ·exact h
 split
 ·exact h
 ·exact ((h.write (nextC_u (nextP_fl h))).cleared).sweepN 4
theorem nextM_out (M : MR) : (nextM M).out = M.out := by
 unfold nextM
 split
 ·rfl
 split
 ·rfl
 ·rw [(sweepN_rest _ _).1];exact writeM_out _ _
theorem horOf_in {hz : Int} {l : List Int} {p : List PinR} (h1 : 0 <= hz /\ hz <= maxTs) (h2 : ∀ x ∈ l,0 <= x /\ x <= maxTs) (h3 : ∀ x ∈ p,0 <= x.at' /\ x.at' <= maxTs) : 0 <= Lea.horOf hz l p /\ Lea.horOf hz l p <= maxTs := by
 cases l with
 | nil => exact h1
 | cons m r =>
  have a1 := Lea.leastL_in (f := m) (l := r) (h2 m (List.mem_cons_self ..)) (fun x hx => h2 x (List.mem_cons_of_mem _ hx))
  have a2 := Lea.leastL_in (f := Lea.leastL m r - min (Lea.leastL m r) 2) (l := p.map fun p => p.at') (by omega) (fun x hx => by
   obtain ⟨y,hy,rfl⟩ := List.mem_map.1 hx
   exact h3 y hy)
  have e : Lea.horOf hz (m :: r) p = max hz (Lea.leastL (Lea.leastL m r - min (Lea.leastL m r) 2) (p.map fun p => p.at')) := rfl
  rw [e]
  omega
theorem marksL_in (h : MOk M k) (n : Nat) : ∀ x ∈ marksL M n,0 <= x /\ x <= maxTs := by
 intro x hx
 unfold marksL at hx
 obtain ⟨m,hm,rfl⟩ := List.mem_map.1 hx
 cases hv : M.marks m.1 with
 | none => exact ⟨Int.le_refl _,by decide⟩
 | some v => exact h.marks _ v hv
theorem marksL_len (M : MR) (n : Nat) : (marksL M n).length = (M.st.ms.take n).length := List.length_map _
theorem nhor_u {h : Int} (hh : 0 <= h /\ h <= maxTs) : NU (hnote h) := ⟨hh,by unfold hnote zn;dsimp only;unfold maxTs;decide,by unfold hnote zn;dsimp only;unfold maxTs;decide,by unfold hnote zn;dsimp only;unfold maxTs;decide⟩
theorem horNew_in (h : MOk M k) : 0 <= horNew M /\ horNew M <= maxTs := horOf_in h.st.su.hz (marksL_in h _) (fun p hp => (h.pin p hp).2.2)
theorem MOk.horizon (h : MOk M k) : MOk (horizonM M) k := by
 unfold Mas.horizonM
 split
 ·split
  ·exact h.write (nhor_u (horNew_in h))
  ·exact h
 ·exact h
theorem horizonM_out (M : MR) : (horizonM M).out = M.out := by
 unfold horizonM
 split
 ·split
  ·exact writeM_out _ _
  ·rfl
 ·rfl
theorem ticked_mem {l : List PinR} {p : PinR} (h : p ∈ Lea.ticked l) : ∃ q ∈ l,1 < q.left /\ p = ⟨q.id,q.at',q.left - 1⟩ := by
 unfold Lea.ticked at h
 obtain ⟨q,hq,rfl⟩ := List.mem_map.1 h
 have := List.mem_filter.1 hq
 exact ⟨q,this.1,of_decide_eq_true this.2,rfl⟩
theorem MOk.tick0 (h : MOk M k) : MOk (tick0 M) k := by
 refine h.setP (Nat.le_trans (Lea.ticked_len _) h.p3) (fun p hp => ?_)
 obtain ⟨q,hq,h1,rfl⟩ := ticked_mem hp
 have := h.pin q hq
 exact ⟨by dsimp only;omega,by dsimp only;omega,this.2.2⟩
theorem MOk.unpinN (h : MOk M k) (l : List Int) : MOk (unpinN M l) k := by
 induction l generalizing M with
 | nil => exact h
 | cons a l ih => exact ih (h.write (nu_nt _ _ _ (by decide) (by decide)))
theorem unpinN_out (M : MR) (l : List Int) : (unpinN M l).out = M.out := by
 induction l generalizing M with
 | nil => rfl
 | cons a l ih => exact (ih (writeM M (nunpin a))).trans (writeM_out _ _)
theorem unpinN_snoc (M : MR) (l : List Int) (a : Int) : unpinN M (l ++ [a]) = writeM (unpinN M l) (nunpin a) := by unfold unpinN;rw [List.foldl_append];rfl
theorem tellN_snoc (M : MR) (l : List Mem) (m : Mem) : tellN M (l ++ [m]) = whereM (tellN M l) m.1 := by unfold tellN;rw [List.foldl_append];rfl
theorem MOk.tick1 (h : MOk M k) : MOk (tick1 M) k := (h.tick0).unpinN _
theorem WOk.bumped {ns : List Int} {t : Int} (h : WOk ns t) : WOk (ns.map bump) (bump t) :=
 ⟨by rw [List.length_map];exact h.len,(fun n hn => by
  obtain ⟨y,hy,rfl⟩ := List.mem_map.1 hn
  exact bump_in (h.ns y hy)),bump_in h.t⟩
theorem MOk.tick2 (h : MOk M k) : MOk (tick2 M) k := by
 have h1 := h.tick1
 exact ⟨h1.st,h1.p3,h1.pin,WOk.bumped h1.wat,h1.last,h1.marks,h1.serial,h1.cnt⟩
theorem MOk.tick3 (h : MOk M k) : MOk (tick3 M) k := ((h.tick2).nextM).horizon
theorem MOk.tellN (h : MOk M k) (l : List Mem) : MOk (tellN M l) k := by
 induction l generalizing M with
 | nil => exact h
 | cons a l ih => exact ih (h.send _ _)
theorem send_st (M : MR) (to : Int) (x : MsgR) : (sendM M to x).st = M.st := by unfold sendM;split <;> rfl
theorem tellN_st (M : MR) (l : List Mem) : (tellN M l).st = M.st := by
 induction l generalizing M with
 | nil => rfl
 | cons a l ih => exact (ih (whereM M a.1)).trans (send_st _ _ _)
theorem tellN_out (M : MR) (l : List Mem) : (tellN M l).out.length <= M.out.length + l.length := by
 induction l generalizing M with
 | nil => exact Nat.le_refl _
 | cons a l ih =>
  have h1 := ih (whereM M a.1)
  have h2 : (whereM M a.1).out.length <= M.out.length + 1 := send_out _ _ _
  have h3 : tellN M (a :: l) = tellN (whereM M a.1) l := rfl
  rw [h3,List.length_cons]
  omega
theorem MOk.tick4 (h : MOk M k) : MOk (tick4 M) k := (h.tick3).tellN _
theorem tick3_out (M : MR) : (tick3 M).out = M.out := by
 unfold tick3
 rw [horizonM_out,nextM_out]
 exact unpinN_out (tick0 M) _
theorem MOk.tick (h : MOk M k) : MOk (tickM M) k := (h.tick4).done
end
end Mas
namespace Mas
open Plan Vn Mst Wat IM Nte Msg
structure SameC (a b : StR) : Prop where
 ep : b.ep = a.ep
 ms : b.ms = a.ms
 fl : b.fl = a.fl
 lg : b.lg = a.lg
structure GrowC (a b : StR) : Prop where
 ep : b.ep = a.ep
 ms : b.ms = a.ms
 fl : b.fl = a.fl
 lg : a.lg.length <= b.lg.length
structure Turn (a b : StR) : Prop where
 ep : b.ep = a.ep + 1
 fl : a.fl <= b.fl
 tr : ∀ m ∈ b.ms,m.1 ∈ b.lg -> m ∈ a.ms /\ m.1 ∈ a.lg
def HRel (a b : StR) : Prop := GrowC a b \/ Turn a b
section
variable {a b c : StR} {M : MR} {k : Nat}
theorem SameC.refl (a : StR) : SameC a a := ⟨rfl,rfl,rfl,rfl⟩
theorem SameC.of_eq (h : b = a) : SameC a b := by subst h;exact SameC.refl _
theorem SameC.trans (h : SameC a b) (k : SameC b c) : SameC a c := ⟨k.ep.trans h.ep,k.ms.trans h.ms,k.fl.trans h.fl,k.lg.trans h.lg⟩
theorem SameC.rel (h : SameC a b) : HRel a b := .inl ⟨h.ep,h.ms,h.fl,by rw [h.lg];exact Nat.le_refl _⟩
theorem SameC.thenH (h : SameC a b) (k : HRel b c) : HRel a c := by
 rcases k with k | k
 ·exact .inl ⟨k.ep.trans h.ep,k.ms.trans h.ms,k.fl.trans h.fl,by rw [<- h.lg];exact k.lg⟩
 ·exact .inr ⟨by rw [k.ep,h.ep],by rw [<- h.fl];exact k.fl,fun m hm hl => by have := k.tr m hm hl;rw [h.ms,h.lg] at this;exact this⟩
theorem HRel.thenS (h : HRel a b) (k : SameC b c) : HRel a c := by
 rcases h with h | h
 ·exact .inl ⟨k.ep.trans h.ep,k.ms.trans h.ms,k.fl.trans h.fl,by rw [k.lg];exact h.lg⟩
 ·exact .inr ⟨k.ep.trans h.ep,by rw [k.fl];exact h.fl,fun m hm hl => h.tr m (by rw [<- k.ms];exact hm) (by rw [<- k.lg];exact hl)⟩
theorem apply_same (s : StR) (x : NoteR) (h1 : x.k ≠ 1) (h5 : x.k ≠ 5) : SameC s (applyS s x) := by
 unfold applyS
 split
 ·exact SameC.refl _
 split
 ·exact ⟨rfl,rfl,rfl,rfl⟩
 split
 ·unfold pinS
  split <;> exact ⟨rfl,rfl,rfl,rfl⟩
 split
 ·exact ⟨rfl,rfl,rfl,rfl⟩
 ·unfold withTold
  split
  ·exact ⟨rfl,rfl,rfl,rfl⟩
  split
  ·exact ⟨rfl,rfl,rfl,rfl⟩
  ·exact ⟨rfl,rfl,rfl,rfl⟩
theorem apply_legit (s : StR) (x : NoteR) (h5 : x.k = 5) : GrowC s (applyS s x) := by
 unfold applyS
 split
 ·exact ⟨rfl,rfl,rfl,Nat.le_refl _⟩
 rw [if_neg (show ¬ x.k = 1 by omega)]
 refine ⟨rfl,rfl,rfl,?_⟩
 show s.lg.length <= (trustL s.lg x.n).length
 unfold trustL
 split
 ·exact Nat.le_refl _
 ·rw [sortI_length,List.length_append];omega
theorem writeM_st (M : MR) (x : NoteR) : (writeM M x).st = applyS M.st x := by
 unfold writeM
 split
 ·rfl
 ·rename_i h
  unfold applyS
  rw [if_pos h]
theorem write_same (M : MR) (x : NoteR) (h1 : x.k ≠ 1) (h5 : x.k ≠ 5) : SameC M.st (writeM M x).st := by
 rw [writeM_st];exact apply_same _ _ h1 h5
theorem write_legit (M : MR) (x : NoteR) (h5 : x.k = 5) : GrowC M.st (writeM M x).st := by
 rw [writeM_st];exact apply_legit _ _ h5
theorem unpinN_same (M : MR) (l : List Int) : SameC M.st (unpinN M l).st := by
 induction l generalizing M with
 | nil => exact SameC.refl _
 | cons x l ih => exact (write_same M (nunpin x) (by show (7 : Int) ≠ 1;decide) (by show (7 : Int) ≠ 5;decide)).trans (ih (writeM M (nunpin x)))
theorem nextM_rel (h : MOk M k) : HRel M.st (nextM M).st := by
 unfold nextM
 split
 ·exact (SameC.refl _).rel
 ·rename_i h0
  split
  ·exact (SameC.refl _).rel
  ·rename_i h1
   rw [sweepN_st]
   show HRel M.st (writeM M (nextC (nextP M))).st
   rw [writeM_st]
   have hi := next_is (Classical.not_not.1 h0)
   have e : applyS M.st (nextC (nextP M)) = { M.st with ep := (nextP M).ep,ms := (nextP M).l,fl := (nextP M).fl,lg := (nextP M).t } := by
    unfold applyS
    rw [if_neg h1,if_pos (show (nextC (nextP M)).k = 1 from rfl)]
    rfl
   rw [e]
   refine .inr ⟨hi.epv,hi.floor h.st.su.fl.2,fun m hm hl => ?_⟩
   have := hi.trusted hm hl
   exact ⟨this.1,this.2.1⟩
theorem horizonM_same (M : MR) : SameC M.st (horizonM M).st := by
 unfold horizonM
 split
 ·split
  ·exact write_same _ _ (by show (4 : Int) ≠ 1;decide) (by show (4 : Int) ≠ 5;decide)
  ·exact SameC.refl _
 ·exact SameC.refl _
theorem tickM_rel (h : MOk M k) : HRel M.st (tickM M).st := by
 have h1 : SameC M.st (tick2 M).st := unpinN_same (tick0 M) _
 have h2 := nextM_rel h.tick2
 have h3 := horizonM_same (nextM (tick2 M))
 have h4 : (tickM M).st = (tick3 M).st := tellN_st _ _
 exact (h1.thenH h2).thenS (h3.trans (SameC.of_eq h4))
theorem pinM_same (M : MR) (at' : Int) : SameC M.st (pinM M at').st := by
 unfold pinM
 split
 ·exact SameC.refl _
 split
 ·exact SameC.refl _
 ·exact write_same M _ (by show (6 : Int) ≠ 1;decide) (by show (6 : Int) ≠ 5;decide)
theorem grantM_same (M : MR) (x : MsgR) : SameC M.st (grantM M x).st := by
 unfold grantM
 split
 ·exact pinM_same _ _
 split
 ·exact SameC.refl _
 split
 ·exact write_same M _ (by show (6 : Int) ≠ 1;decide) (by show (6 : Int) ≠ 5;decide)
 ·exact write_same M _ (by show (7 : Int) ≠ 1;decide) (by show (7 : Int) ≠ 5;decide)
theorem ask1_same (M : MR) (cl : Int) (x : MsgR) : SameC M.st (ask1 M cl x).st := by
 unfold ask1
 split
 ·exact (grantM_same M x).trans (write_same _ _ (by show (8 : Int) ≠ 1;decide) (by show (8 : Int) ≠ 5;decide))
 ·exact SameC.refl _
theorem askM_same (M : MR) (cl : Int) (x : MsgR) : SameC M.st (askM M cl x).st := by
 unfold askM
 split
 ·exact SameC.refl _
 ·rw [send_st];exact ask1_same M cl x
theorem beat1_grow (M : MR) (id : Int) (x : MsgR) : GrowC M.st (beat1 M id x).st := by
 have hr : ∀ s : StR,GrowC s s := fun s => ⟨rfl,rfl,rfl,Nat.le_refl _⟩
 unfold beat1
 split
 ·split
  ·exact hr _
  split
  ·exact write_legit (marked0 M id x) _ rfl
  ·exact hr _
 ·split <;> exact hr _
theorem beatM_rel (M : MR) (id : Int) (x : MsgR) : HRel M.st (beatM M id x).st := by
 unfold beatM
 split
 ·have e : (whereM (beat1 M id x) id).st = (beat1 M id x).st := send_st _ _ _
  rw [e];exact .inl (beat1_grow M id x)
 ·exact .inl (beat1_grow M id x)
theorem deliver1_rel (M : MR) (i : Int) (x : MsgR) : HRel M.st (deliver1 M i x).st := by
 unfold deliver1
 split
 ·split
  ·exact beatM_rel _ _ _
  ·exact (SameC.refl _).rel
 split
 ·split
  ·exact (SameC.of_eq (send_st _ _ _)).rel
  ·exact (SameC.refl _).rel
 split
 ·split
  ·exact (askM_same _ _ _).rel
  ·exact (SameC.refl _).rel
 ·exact (SameC.refl _).rel
theorem deliverM_rel (M : MR) (i : Int) (x : MsgR) : HRel M.st (deliverM M i x).st := by
 unfold deliverM
 split
 ·exact deliver1_rel M i x
 ·exact (SameC.refl _).rel
theorem joinM_rel (M : MR) (i : Int) : HRel M.st (joinM M i).st := by unfold joinM;split <;> exact (SameC.refl _).rel
theorem leaveM_rel (M : MR) (i : Int) : HRel M.st (leaveM M i).st := by unfold leaveM;split <;> exact (SameC.refl _).rel
theorem HRel.ep (h : HRel a b) (h1 : 1 <= a.ep) : 1 <= b.ep := by
 rcases h with h | h
 ·rw [h.ep];exact h1
 ·rw [h.ep];omega
theorem conf0_ok {ep fl : Int} {l : List Mem} (h : Plan.chk ep l = 0) : applyE st0 (confN ep l fl (ids l)) = 0 := by
 obtain ⟨h1,h2,h3,h4⟩ := chk_zero h
 have hl : legE (ids l) = 0 := legE_zero.2 ⟨(fun x hx => by obtain ⟨m,hm,rfl⟩ := mem_ids.1 hx;exact h4.id m hm),ids_rise h4.nd⟩
 have hn : noteE (confN ep l fl (ids l)) = 0 := by
  unfold noteE
  rw [if_pos (show (confN ep l fl (ids l)).k = 1 from rfl)]
  show (if chk ep l = 0 then legE (ids l) else chk ep l) = 0
  rw [if_pos h,hl]
 unfold applyE
 rw [if_neg (by rw [hn];exact fun z => z rfl),if_pos (show (confN ep l fl (ids l)).k = 1 from rfl)]
 show nextE st0 (confN ep l fl (ids l)) = 0
 unfold nextE
 have e1 : ¬ ((confN ep l fl (ids l)).ep <= st0.ep) := by show ¬ (ep <= 0);omega
 rw [if_neg e1]
 have e2 : ((confN ep l fl (ids l)).lg.any fun id => !anyId (confN ep l fl (ids l)).ms id) = false := by
  show ((ids l).any fun id => !anyId l id) = false
  rw [List.any_eq_false]
  intro x hx
  rw [anyId_iff.2 (mem_ids.1 hx)]
  decide
 rw [e2,if_neg (by decide)]
 have e3 : inB (confN ep l fl (ids l)).lg (headI (confN ep l fl (ids l)).ms) = true := by
  show inB (ids l) (headI l) = true
  obtain ⟨m,r,rfl⟩ := List.exists_cons_of_ne_nil h2
  unfold inB
  rw [List.contains_iff_mem]
  exact mem_ids.2 ⟨m,List.mem_cons_self ..,rfl⟩
 rw [e3,if_neg (by decide)]
theorem newM_st {ep fl : Int} {l : List Mem} (h : Plan.chk ep l = 0) : (newM ep l fl).st = { st0 with ep := ep,ms := l,fl := fl,lg := ids l } := by
 show (writeM (mk0 lg0) (confN ep l fl (ids l))).st = _
 rw [writeM_st]
 show applyS st0 (confN ep l fl (ids l)) = _
 unfold applyS
 rw [if_neg (by rw [conf0_ok h];exact fun z => z rfl),if_pos (show (confN ep l fl (ids l)).k = 1 from rfl)]
 rfl
theorem mk0_ok : MOk (mk0 lg0) 0 := ⟨st0_ok,by decide,(fun p hp => by cases hp),⟨rfl,(fun n hn => by revert n;decide),by decide⟩,by decide,(fun i v hv => by cases hv),(fun i v hv => by cases hv),by decide⟩
theorem newM_ok {ep fl : Int} {l : List Mem} (hf : 0 <= fl /\ fl <= maxTs) : MOk (newM ep l fl) 0 := (mk0_ok.write (nconf_u hf)).done
end
end Mas
end Go.Proofs.YtolkgbafebehfaaGreat

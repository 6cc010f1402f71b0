/- Part 45 of what the proof needs. -/
import Derived.Test.YtgffjliedjhbaaaGreatZS29
import Derived.Test.YtgffjliedjhbaaaGreatZS39
import Derived.Test.YtgffjliedjhbaaaGreatZS42
import Derived.Test.YtgffjliedjhbaaaGreatZS43
set_option linter.unusedSimpArgs false
set_option linter.unusedVariables false
set_option maxHeartbeats 32000000
set_option maxRecDepth 100000
namespace Go.Proofs.YtgffjliedjhbaaaGreat
open Go.RowKit
set_option maxRecDepth 100000
namespace Mas
open Plan Vn Mst Wat IM Nte
def textsL (l : List NoteR) : List ByteArray := (l.filter fun x => decide (noteE x = 0)).map noteB
theorem textsL_at {l : List NoteR} {i : Nat} {x : NoteR} (h : l[i]? = some x) : textsL (l.take (i + 1)) = if noteE x = 0 then textsL (l.take i) ++ [noteB x] else textsL (l.take i) := by
 obtain ⟨hi,he⟩ := List.getElem?_eq_some_iff.1 h
 unfold textsL
 rw [List.take_succ_eq_append_getElem hi,he,List.filter_append,List.map_append]
 by_cases hp : noteE x = 0
 ·rw [if_pos hp,List.filter_cons,if_pos (decide_eq_true hp)];rfl
 ·rw [if_neg hp,List.filter_cons,if_neg (by simpa using hp)];simp
theorem textsL_len (l : List NoteR) : (textsL l).length <= l.length := by
 unfold textsL;rw [List.length_map];exact List.length_filter_le _ _
theorem elemStrs : Elem Tryz.prog 108 9 1 16 := ⟨Tryz.underlying108,⟨_,_,rfl,rfl,rfl,rfl,rfl⟩,by decide⟩
def TextsPost (w : World) (l : List NoteR) (e : Ending) (w' : World) : Prop := ∃ A c,e = .returned (.slice A (textsL l).length c) /\ NewSl 9 1 w.heap.size w' A (textsL l).length c ((textsL l).map Value.string) /\ Kept NoF w w'
attribute [local go_sem ↓] loadVar_note
attribute [local go_sem] run_loadNote
theorem texts_any (w : World) (A0 : Option Addr) (c0 : Nat) (l : List NoteR) (hl : Src w 18 A0 l.length (ncells l)) (hlen : l.length <= 1000) (hx : ∀ x ∈ l,NOk w x /\ NU x) :
  Calls Tryz.prog 93 #[.slice A0 l.length c0] w (TextsPost w l) := by
 have HL := hZ0 hl;have HX := hZ0 hx;clear hl hx
 go_enter Tryz.func93,Tryz.ntmps93
 go_wp2_with fail
 go_loopw [3,10] (fun v3 v10 wr => ∃ (i : Nat) (A : Option Addr) (c : Nat),i <= l.length /\ v10 = .int .i64 i /\ v3 = .slice A (textsL (l.take i)).length c /\ NewSl 9 1 w.heap.size wr A (textsL (l.take i)).length c ((textsL (l.take i)).map Value.string) /\ Kept NoF w wr) (fun _ v10 _ => l.length - (intOf v10).toNat)
 case atStart => exact ⟨0,none,0,Nat.zero_le _,rfl,rfl,NewSl.nil _ _ _ _,Kept.refl _ _⟩
 case round =>
  obtain ⟨i,A,c,hi,rfl,rfl,hr,hk⟩ := hrel
  by_cases hil : i < l.length
  ·obtain ⟨x,hx⟩ : ∃ x,l[i]? = some x := ⟨_,List.getElem?_eq_getElem hil⟩
   obtain ⟨hok,hu⟩ := HX.out x (List.mem_of_getElem? hx)
   have hput := fun W (hW : Kept NoF wr W) => nput_any ((hok.kept hk).kept hW) hu
   obtain ⟨ad,rfl,had,hc⟩ := note_cells (HL.out.kept hk (fun _ _ z => z)) (by omega) i x hx
   obtain ⟨u1,u2⟩ := noteIn_of rfl hc
   have hs := textsL_at hx
   have hb1 := textsL_len (l.take i)
   have hb2 : (l.take i).length <= 1000 := by rw [List.length_take];omega
   obtain ⟨T,hT⟩ : ∃ T,textsL (l.take i) = T := ⟨_,rfl⟩
   obtain ⟨z,hz⟩ : ∃ z,noteE x = z := ⟨_,rfl⟩
   obtain ⟨s,hs2⟩ : ∃ s,noteB x = s := ⟨_,rfl⟩
   rw [hT] at hs hr hb1 ⊢
   rw [hz] at hs hput
   rw [hs2] at hs hput
   have hput' : ∀ W,Kept NoF wr W -> Calls Tryz.prog 88 #[.agg (ncell x).toArray] W fun e w' => e = .returned (.tuple #[.string s,.int .i64 z]) /\ Kept NoF W w' := hput
   have HS := hZ0 hs;have HR := hZ0 hr;have HK := hZ0 hk
   have HM1 : Hid (T.length + 1 <= maxLen) := hZ0 (by unfold maxLen;omega)
   have HM2 : Hid ((T.length + 1) * 16 <= 140737488355328) := hZ0 (by omega)
   clear hs hr hk hz hs2 hT hput hok hu hx hc hb1 hb2
   obtain ⟨k,n,at2,ep,mA2,mc2,ms,fl,lA2,lc2,lg,oA,oc,⟨bcl,breq,ops⟩,ts,⟨p1,p2,p3⟩,⟨s1,s2,s3,s4⟩⟩ := x
   simp only [ncell] at hput' u2
   have HP := hZ0 hput';clear hput'
   by_cases h0 : z = 0
   ·subst h0
    have hs1 := HS.out
    rw [if_pos rfl] at hs1
    have HS1 := hZ0 hs1;clear hs1 HS
    go_wp2_with (refine wpList_load_row rfl 116 (.tmp 5) rfl wr.heap.size rfl 116 _ (0,0) _ (Has.new _ _ _) Tryz.underlying116 rfl (by kernel_rfl) ?_)
    refine (HP.out _ (by (repeat' (first | (with_reducible first | exact kR0 | apply kP0 | apply kN0 | apply kD0 | apply kA0) | (right;simp;done))))).mono ?_
    rintro e w4 ⟨rfl,hk4⟩
    have HK4 := hZ0 (Kept.then (F := NoF) (a := wr) (by (repeat' (first | (with_reducible first | exact kR0 | apply kP0 | apply kN0 | apply kD0 | apply kA0) | (right;simp;done)))) hk4);clear hk4 u1 u2
    go_wp2_with (at_builtin;refine list_append_src elemStrs (.tmp 21) (.tmp 23) rfl rfl (Value.slice A T.length c) rfl (own_kept (own_kept HR.out.1 HK4.out (fun _ _ x => x)) (F := NoF) (by (repeat' (first | (with_reducible first | exact kR0 | apply kP0 | apply kN0 | apply kD0 | apply kA0) | (right;simp;done)))) (fun _ _ x => x)) 1 rfl (Src.of_has (t := 9) (size := 1) (m := 1) (cs := #[.string s]) (by (repeat (first | with_reducible exact Has.new_at _ _ _ (by simp) | with_reducible apply Has.drew | with_reducible apply Has.drewN | with_reducible apply Has.alloc | (with_reducible apply Has.past <;> (try omega)) ))) rfl) (by simp [Value.oneCell']) HM1.out HM2.out ?_;intro A1 c1 w9 ho1 hg1 ha1;have hpush := NewSl.pushed HR.out (by (repeat' (first | (with_reducible first | exact kR0 | apply kP0 | apply kN0 | apply kD0 | apply kA0) | (exact HK.out.then HK4.out) | (right;simp;done)))) ho1 hg1 ha1;have HPU := hZ0 hpush;clear ho1 hg1 ha1 hpush)
    go_roundw
    case rel => exact ⟨i + 1,A1,c1,by omega,by go_num,by rw [HS1.out,List.length_append];rfl,by rw [HS1.out,List.length_append,List.map_append];exact HPU.out.1,HPU.out.2⟩
    case measure => simp [intOf];omega
   ·have hs1 := HS.out
    rw [if_neg h0] at hs1
    have HS1 := hZ0 hs1;clear hs1 HS
    have h2 : (z == 0) = false := by simpa using h0
    clear h0
    go_wp2_with (refine wpList_load_row rfl 116 (.tmp 5) rfl wr.heap.size rfl 116 _ (0,0) _ (Has.new _ _ _) Tryz.underlying116 rfl (by kernel_rfl) ?_)
    refine (HP.out _ (by (repeat' (first | (with_reducible first | exact kR0 | apply kP0 | apply kN0 | apply kD0 | apply kA0) | (right;simp;done))))).mono ?_
    rintro e w4 ⟨rfl,hk4⟩
    have HK4 := hZ0 (HK.out.then (Kept.then (F := NoF) (a := wr) (by (repeat' (first | (with_reducible first | exact kR0 | apply kP0 | apply kN0 | apply kD0 | apply kA0) | (right;simp;done)))) hk4));have HKR := hZ0 (Kept.then (F := NoF) (a := wr) (by (repeat' (first | (with_reducible first | exact kR0 | apply kP0 | apply kN0 | apply kD0 | apply kA0) | (right;simp;done)))) hk4);clear hk4 u1 u2
    go_wp2
    go_roundw
    case rel => exact ⟨i + 1,A,c,by omega,by go_num,by rw [HS1.out],by rw [HS1.out];exact HR.out.kept HKR.out,HK4.out⟩
    case measure => simp [intOf];omega
  ·obtain rfl : i = l.length := by omega
   rw [List.take_length] at hr ⊢
   have HR := hZ0 hr;have HK := hZ0 hk;clear hr hk
   go_wp2
   go_ret
   exact ⟨A,c,rfl,HR.out,HK.out⟩
open Msg in
section
variable {w w' : World} {X X0 : MX} {M M0 : MR} {c : Nat}
open Msg in
end
end Mas
namespace Mas
open Plan Vn Mst Wat IM Nte Msg
structure SU (s : StR) : Prop where
 hz : 0 <= s.hz /\ s.hz <= maxTs
 fl : 0 <= s.fl /\ s.fl <= maxTs
 pin : ∀ p ∈ s.pins,0 <= p.at' /\ p.at' <= maxTs
section
variable {w w' : World} {X X0 : MX} {M M0 : MR} {c : Nat}
end
end Mas
namespace Mst
open Plan Vn Go.Sort
theorem elemNote : Elem Tryz.prog 188 116 18 192 := by
 obtain ⟨i0,hi,hz0,hz1,hz2⟩ := info_parts (show (Tryz.prog.info? 116).map (fun i => (i.zero,i.size,i.bytes)) = some (some (.agg #[.int .i64 0,.int .i64 0,.int .u64 0,.int .i64 0,.slice none 0 0,.int .u64 0,.slice none 0 0,.int .i64 0,.int .i64 0,.slice none 0 0,.int .u64 0,.int .i64 0,.int .u64 0,.int .i64 0,.int .i64 0,.int .i64 0,.int .i64 0,.int .i64 0]),18,192) by kernel_rfl)
 exact ⟨Tryz.underlying188,⟨i0,_,hi,hz0,hz1,hz2,rfl⟩,by decide⟩
theorem one_ncell (x : NoteR) : ∀ u ∈ ncell x,u.oneCell' = true := by
 intro u hu
 simp [ncell] at hu
 rcases hu with rfl | rfl | rfl | rfl | rfl | rfl | rfl | rfl | rfl | rfl | rfl | rfl | rfl | rfl | rfl | rfl | rfl | rfl <;> rfl
theorem ncells_snoc (l : List NoteR) (x : NoteR) : ncells (l ++ [x]) = ncells l ++ ncell x := by simp [ncells]
def zn : NoteR := ⟨0,0,0,0,none,0,[],0,none,0,[],none,0,⟨0,0,[]⟩,0,⟨0,0,0⟩,⟨0,0,0,0⟩⟩
def cnote (s : StR) (A : Option Addr) (c : Nat) (B : Option Addr) (d : Nat) : NoteR := { zn with k := 1,ep := s.ep,mA := A,mc := c,ms := s.ms,fl := s.fl,lA := B,lc := d,lg := s.lg }
def pnote (p : PinR) : NoteR := { zn with k := 6,pin := p }
def unote (n : Int) : NoteR := { zn with k := 7,n := n }
def hnote (h : Int) : NoteR := { zn with k := 4,at' := h }
def snote (a : AnsR) : NoteR := { zn with k := 8,said := a }
def upart (s : StR) : List NoteR := if s.pins.any (fun p => decide (p.id = s.top)) = true then [] else [unote s.top]
def told3 (s : StR) : List AnsR := [s.t0,s.t1,s.t2]
def sparts (l : List AnsR) : List NoteR := (l.filter fun a => decide (a ≠ ans0)).map snote
def PreAt (w : World) (s : StR) (pre : List NoteR) : Prop := (pre = [] /\ ¬ 0 < s.ep) \/ (0 < s.ep /\ ∃ A c B d,pre = [cnote s A c B d] /\ w.ownsRow 0 57 2 (.slice A s.ms.length c) s.ms.length (mcells s.ms) /\ w.ownsRow 0 3 1 (.slice B s.lg.length d) s.lg.length (ints s.lg))
theorem PreAt.row {w w' : World} {s : StR} {pre : List NoteR} {v : Value} {n : Nat} {xs : List Value} (h : PreAt w s pre) (ho : w.ownsRow 0 116 18 v n xs) (hk : Kept (RowOf v) w w') : PreAt w' s pre := by
 rcases h with h | ⟨h0,A,c,B,d,h1,h2,h3⟩
 ·exact .inl h
 ·refine .inr ⟨h0,A,c,B,d,h1,own_kept h2 hk (fun g hg hr => ?_),own_kept h3 hk (fun g hg hr => ?_)⟩
  ·obtain ⟨cs,hh⟩ := own_has ho hr
   exact own_ne h2 hh (by decide) hg
  ·obtain ⟨cs,hh⟩ := own_has ho hr
   exact own_ne h3 hh (by decide) hg
structure OutAt (w0 : World) (s : StR) (w : World) (pre l : List NoteR) (A : Option Addr) (c : Nat) : Prop where
 own : w.ownsRow 0 116 18 (.slice A l.length c) l.length (ncells l)
 new : ∀ k,RowOf (.slice A l.length c) k -> w0.heap.size <= k
 pre : PreAt w s pre
 kept : Kept NoF w0 w
theorem OutAt.still {w0 w w' : World} {s : StR} {pre l : List NoteR} {A : Option Addr} {c : Nat} (h : OutAt w0 s w pre l A c) (hk : Kept NoF w w') : OutAt w0 s w' pre l A c :=
 ⟨own_kept h.own hk (fun _ _ z => z),h.new,h.pre.row h.own (Kept.up hk),h.kept.then hk⟩
theorem OutAt.push {w0 w W w' : World} {s : StR} {pre l : List NoteR} {A A1 : Option Addr} {c c1 : Nat} (x : NoteR) (h : OutAt w0 s w pre l A c) (hW : Kept NoF w W)
  (ho : w'.ownsRow 0 116 18 (.slice A1 (l.length + 1) c1) (l.length + 1) (ncells l ++ ncell x)) (hg : W.grownBy w' (Value.slice A l.length c).ownBlock)
  (ha : (Value.slice A1 (l.length + 1) c1).ownBlock = (Value.slice A l.length c).ownBlock \/ (Value.slice A1 (l.length + 1) c1).ownBlock = some W.heap.size) : OutAt w0 s w' pre (l ++ [x]) A1 c1 := by
 have h2 := h.still hW
 refine ⟨?_,?_,?_,?_⟩
 ·rw [ncells_snoc,List.length_append];exact ho
 ·intro k hk
  rw [List.length_append] at hk
  rcases ha with e | e
  ·exact h.new k (e.symm.trans hk)
  ·have h9 := e.symm.trans hk
   injection h9 with h9
   have := h2.kept.size
   omega
 ·exact h2.pre.row h2.own (Kept.grown (Kept.refl _ _) hg (fun k hk => .inl hk))
 ·exact h2.kept.grown hg (fun k hk => .inr (h2.new k hk))
theorem notes1_any (w : World) (p : PinR) (g b : Nat) (s : StR) (mA : Option Addr) (mc : Nat) (lA : Option Addr) (lc : Nat) (pA : Option Addr) (pc : Nat) (hg : Has w g 172 #[.pointer (some ⟨b,0,none⟩)]) (hb : Has w b 261 (scells s mA mc lA lc pA pc true)) :
  Calls Tryz.prog 166 #[pagg p,.pointer (some ⟨g,0,none⟩)] w fun e w' => e = .returned (.bool (decide (p.id = s.top))) /\ Kept NoF w w' := by
 obtain ⟨p1,p2,p3⟩ := p
 obtain ⟨W0,hW0⟩ : ∃ W0,w.alloc (.cells #[.int .i64 p1,.int .u64 p2,.int .i64 p3] 112) = W0 := ⟨_,rfl⟩
 have hk0 : Kept NoF w W0 := by rw [<- hW0];(repeat' (first | (with_reducible first | exact kR0 | apply kP0 | apply kN0 | apply kD0 | apply kA0) | (right;simp;done)))
 have hn0 : Has W0 w.heap.size 112 #[.int .i64 p1,.int .u64 p2,.int .i64 p3] := by rw [<- hW0];exact Has.new _ _ _
 have c0 : W0.cell? ⟨w.heap.size,0,none⟩ = some (.int .i64 p1) := hn0.cell 0
 have c1 : W0.cell? ⟨g,0,none⟩ = some (.pointer (some ⟨b,0,none⟩)) := (hg.kept hk0 (fun z => z)).cell 0
 have c6 : W0.cell? ⟨b,6,none⟩ = some (.int .i64 s.top) := (hb.kept hk0 (fun z => z)).cell 6
 have HK0 := hZ0 hk0
 clear hn0 hg hb hk0
 go_enter Tryz.func166,Tryz.ntmps166
 go_wp2_with fail
 clear hW0
 go_quiet (fail)
 go_wp2
 go_ret
 exact ⟨rfl,HK0.out.drewN _⟩
end Mst
namespace Mst
open Plan Vn Go.Sort
def runN (s : StR) (l : List NoteR) : StR := l.foldl applyS s
end Mst
end Go.Proofs.YtgffjliedjhbaaaGreat

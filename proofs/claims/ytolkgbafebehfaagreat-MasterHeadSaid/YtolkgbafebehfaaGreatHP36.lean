/- Part 37 of what the proof needs. -/
import Derived.Test.YtolkgbafebehfaaGreatHP21
import Derived.Test.YtolkgbafebehfaaGreatHP32
import Derived.Test.YtolkgbafebehfaaGreatHP33
import Derived.Test.YtolkgbafebehfaaGreatHP35
set_option linter.unusedSimpArgs false
set_option linter.unusedVariables false
set_option maxHeartbeats 32000000
set_option maxRecDepth 100000
namespace Go.Proofs.YtolkgbafebehfaaGreat
open Go.RowKit
set_option maxRecDepth 100000
namespace Mas
open Plan Vn Mst Wat IM Nte
def textsL (l : List NoteR) : List ByteArray := (l.filter fun x => decide (noteE x = 0)).map noteB
theorem textsL_at {l : List NoteR} {i : Nat} {x : NoteR} (h : l[i]? = some x) : textsL (l.take (i + 1)) = if noteE x = 0 then textsL (l.take i) ++ [noteB x] else textsL (l.take i) := by
 obtain ⟨hi,he⟩ := List.getElem?_eq_some_iff.1 h
 unfold textsL
 rw [List.take_succ_eq_append_getElem hi,he,List.filter_append,List.map_append]
 by_cases hp : noteE x = 0
 ·rw [if_pos hp,List.filter_cons,if_pos (decide_eq_true hp)];rfl
 ·rw [if_neg hp,List.filter_cons,if_neg (by simpa using hp)];simp
theorem textsL_len (l : List NoteR) : (textsL l).length <= l.length := by
 unfold textsL;rw [List.length_map];exact List.length_filter_le _ _
theorem elemStrs : Elem Tryz.prog 106 9 1 16 := ⟨Tryz.underlying106,⟨_,_,rfl,rfl,rfl,rfl,rfl⟩,by decide⟩
def TextsPost (w : World) (l : List NoteR) (e : Ending) (w' : World) : Prop := ∃ A c,e = .returned (.slice A (textsL l).length c) /\ NewSl 9 1 w.heap.size w' A (textsL l).length c ((textsL l).map Value.string) /\ Kept NoF w w'
attribute [local go_sem ↓] loadVar_note
attribute [local go_sem] run_loadNote
theorem texts_any (w : World) (A0 : Option Addr) (c0 : Nat) (l : List NoteR) (hl : Src w 18 A0 l.length (ncells l)) (hlen : l.length <= 1000) (hx : ∀ x ∈ l,NOk w x /\ NU x) :
  Calls Tryz.prog 114 #[.slice A0 l.length c0] w (TextsPost w l) := by
 have HL := hZ0 hl;have HX := hZ0 hx;clear hl hx
 go_enter Tryz.func114,Tryz.ntmps114
 go_wp2_with fail
 go_loopw [3,10] (fun v3 v10 wr => ∃ (i : Nat) (A : Option Addr) (c : Nat),i <= l.length /\ v10 = .int .i64 i /\ v3 = .slice A (textsL (l.take i)).length c /\ NewSl 9 1 w.heap.size wr A (textsL (l.take i)).length c ((textsL (l.take i)).map Value.string) /\ Kept NoF w wr) (fun _ v10 _ => l.length - (intOf v10).toNat)
 case atStart => exact ⟨0,none,0,Nat.zero_le _,rfl,rfl,NewSl.nil _ _ _ _,Kept.refl _ _⟩
 case round =>
  obtain ⟨i,A,c,hi,rfl,rfl,hr,hk⟩ := hrel
  by_cases hil : i < l.length
  ·obtain ⟨x,hx⟩ : ∃ x,l[i]? = some x := ⟨_,List.getElem?_eq_getElem hil⟩
   obtain ⟨hok,hu⟩ := HX.out x (List.mem_of_getElem? hx)
   have hput := fun W (hW : Kept NoF wr W) => nput_any ((hok.kept hk).kept hW) hu
   obtain ⟨ad,rfl,had,hc⟩ := note_cells (HL.out.kept hk (fun _ _ z => z)) (by omega) i x hx
   obtain ⟨u1,u2⟩ := noteIn_of rfl hc
   have hs := textsL_at hx
   have hb1 := textsL_len (l.take i)
   have hb2 : (l.take i).length <= 1000 := by rw [List.length_take];omega
   obtain ⟨T,hT⟩ : ∃ T,textsL (l.take i) = T := ⟨_,rfl⟩
   obtain ⟨z,hz⟩ : ∃ z,noteE x = z := ⟨_,rfl⟩
   obtain ⟨s,hs2⟩ : ∃ s,noteB x = s := ⟨_,rfl⟩
   rw [hT] at hs hr hb1 ⊢
   rw [hz] at hs hput
   rw [hs2] at hs hput
   have hput' : ∀ W,Kept NoF wr W -> Calls Tryz.prog 108 #[.agg (ncell x).toArray] W fun e w' => e = .returned (.tuple #[.string s,.int .i64 z]) /\ Kept NoF W w' := hput
   have HS := hZ0 hs;have HR := hZ0 hr;have HK := hZ0 hk
   have HM1 : Hid (T.length + 1 <= maxLen) := hZ0 (by unfold maxLen;omega)
   have HM2 : Hid ((T.length + 1) * 16 <= 140737488355328) := hZ0 (by omega)
   clear hs hr hk hz hs2 hT hput hok hu hx hc hb1 hb2
   obtain ⟨k,n,at2,ep,mA2,mc2,ms,fl,lA2,lc2,lg,oA,oc,⟨bcl,breq,ops⟩,ts,⟨p1,p2,p3⟩,⟨s1,s2,s3,s4⟩⟩ := x
   simp only [ncell] at hput' u2
   have HP := hZ0 hput';clear hput'
   by_cases h0 : z = 0
   ·subst h0
    have hs1 := HS.out
    rw [if_pos rfl] at hs1
    have HS1 := hZ0 hs1;clear hs1 HS
    go_wp2_with (refine wpList_load_row rfl 100 (.tmp 5) rfl wr.heap.size rfl 100 _ (0,0) _ (Has.new _ _ _) Tryz.underlying100 rfl (by kernel_rfl) ?_)
    refine (HP.out _ (by (repeat' (first | (with_reducible first | exact kR0 | apply kP0 | apply kN0 | apply kD0 | apply kA0) | (right;simp;done))))).mono ?_
    rintro e w4 ⟨rfl,hk4⟩
    have HK4 := hZ0 (Kept.then (F := NoF) (a := wr) (by (repeat' (first | (with_reducible first | exact kR0 | apply kP0 | apply kN0 | apply kD0 | apply kA0) | (right;simp;done)))) hk4);clear hk4 u1 u2
    go_wp2_with (at_builtin;refine list_append_src elemStrs (.tmp 21) (.tmp 23) rfl rfl (Value.slice A T.length c) rfl (own_kept (own_kept HR.out.1 HK4.out (fun _ _ x => x)) (F := NoF) (by (repeat' (first | (with_reducible first | exact kR0 | apply kP0 | apply kN0 | apply kD0 | apply kA0) | (right;simp;done)))) (fun _ _ x => x)) 1 rfl (Src.of_has (t := 9) (size := 1) (m := 1) (cs := #[.string s]) (by (repeat (first | with_reducible exact Has.new_at _ _ _ (by simp) | with_reducible apply Has.drew | with_reducible apply Has.drewN | with_reducible apply Has.alloc | (with_reducible apply Has.past <;> (try omega)) ))) rfl) (by simp [Value.oneCell']) HM1.out HM2.out ?_;intro A1 c1 w9 ho1 hg1 ha1;have hpush := NewSl.pushed HR.out (by (repeat' (first | (with_reducible first | exact kR0 | apply kP0 | apply kN0 | apply kD0 | apply kA0) | (exact HK.out.then HK4.out) | (right;simp;done)))) ho1 hg1 ha1;have HPU := hZ0 hpush;clear ho1 hg1 ha1 hpush)
    go_roundw
    case rel => exact ⟨i + 1,A1,c1,by omega,by go_num,by rw [HS1.out,List.length_append];rfl,by rw [HS1.out,List.length_append,List.map_append];exact HPU.out.1,HPU.out.2⟩
    case measure => simp [intOf];omega
   ·have hs1 := HS.out
    rw [if_neg h0] at hs1
    have HS1 := hZ0 hs1;clear hs1 HS
    have h2 : (z == 0) = false := by simpa using h0
    clear h0
    go_wp2_with (refine wpList_load_row rfl 100 (.tmp 5) rfl wr.heap.size rfl 100 _ (0,0) _ (Has.new _ _ _) Tryz.underlying100 rfl (by kernel_rfl) ?_)
    refine (HP.out _ (by (repeat' (first | (with_reducible first | exact kR0 | apply kP0 | apply kN0 | apply kD0 | apply kA0) | (right;simp;done))))).mono ?_
    rintro e w4 ⟨rfl,hk4⟩
    have HK4 := hZ0 (HK.out.then (Kept.then (F := NoF) (a := wr) (by (repeat' (first | (with_reducible first | exact kR0 | apply kP0 | apply kN0 | apply kD0 | apply kA0) | (right;simp;done)))) hk4));have HKR := hZ0 (Kept.then (F := NoF) (a := wr) (by (repeat' (first | (with_reducible first | exact kR0 | apply kP0 | apply kN0 | apply kD0 | apply kA0) | (right;simp;done)))) hk4);clear hk4 u1 u2
    go_wp2
    go_roundw
    case rel => exact ⟨i + 1,A,c,by omega,by go_num,by rw [HS1.out],by rw [HS1.out];exact HR.out.kept HKR.out,HK4.out⟩
    case measure => simp [intOf];omega
  ·obtain rfl : i = l.length := by omega
   rw [List.take_length] at hr ⊢
   have HR := hZ0 hr;have HK := hZ0 hk;clear hr hk
   go_wp2
   go_ret
   exact ⟨A,c,rfl,HR.out,HK.out⟩
theorem elemOut : Elem Tryz.prog 63 143 2 24 := ⟨Tryz.underlying63,⟨_,_,rfl,rfl,rfl,rfl,rfl⟩,by decide⟩
theorem ocells_snoc (l : List OutR) (o : OutR) : ocells (l ++ [o]) = ocells l ++ [.int .i64 o.to,.string o.body] := by
 unfold ocells
 rw [List.flatMap_append]
 rfl
open Msg in
def sendM (M : MR) (to : Int) (x : MsgR) : MR := if chkM x = 0 then { M with out := M.out ++ [⟨to,msgR x⟩] } else M
def MPost (w : World) (X : MX) (M : MR) (c : Nat) (v : Value) (M' : MR) (d : Nat) (e : Ending) (w' : World) : Prop := e = .returned v /\ ∃ X',Step w X M w' X' M' /\ LgB X' M'.lg (c + d)
section
variable {w w' : World} {X X0 : MX} {M M0 : MR} {c : Nat}
open Msg in
theorem send_any (h : MAt w X M) (hb : LgB X M.lg c) (ho : M.out.length <= 1000) (to : Int) (x : MsgR) (hx : XOk w x) :
  Calls Tryz.prog 143 #[.pointer (some ⟨X.mb,0,none⟩),.int .i64 to,xagg x] w (MPost w X M c (.tuple #[]) (sendM M to x) 0) := by
 obtain ⟨W0,hW0⟩ : ∃ W0,w.alloc (.cells (xcell x).toArray 46) = W0 := ⟨_,rfl⟩
 have hk0 : Kept NoF w W0 := by rw [<- hW0];(repeat' (first | (with_reducible first | exact kR0 | apply kP0 | apply kN0 | apply kD0 | apply kA0) | (right;simp;done)))
 have hn0 : Has W0 w.heap.size 46 (xcell x).toArray := by rw [<- hW0];exact Has.new _ _ _
 have hput := mput_any W0 x (hx.kept hk0)
 have hbad : chkM x ≠ 0 -> ∀ W,Kept NoF w W -> MPost w X M c (.tuple #[]) (sendM M to x) 0 (.returned (.tuple #[])) W := fun h0 W hW => by
  have e1 : sendM M to x = M := if_neg h0
  rw [e1]
  exact ⟨rfl,X,Step.refl h hW,hb⟩
 have hS : chkM x = 0 -> sendM M to x = { M with out := M.out ++ [⟨to,msgR x⟩] } := fun h0 => if_pos h0
 obtain ⟨z,hz⟩ : ∃ z,chkM x = z := ⟨_,rfl⟩
 obtain ⟨s,hs⟩ : ∃ s,msgR x = s := ⟨_,rfl⟩
 rw [hz] at hput hbad hS
 rw [hs] at hput hS
 have HP := hZ0 hput;have HN := hZ0 hn0;have HK0 := hZ0 hk0;have HBAD := hZ0 hbad;have HS := hZ0 hS;have H := hZ0 h;have HB := hZ0 hb
 clear hput hn0 hk0 hbad hS h hb hx hz hs
 by_cases h0 : z = 0
 rotate_left
 ·have h2 : (z == 0) = false := by simpa using h0
  have HBD := hZ0 (HBAD.out h0);clear h0 HBAD
  go_enter Tryz.func143,Tryz.ntmps143
  go_wp2_with (refine wpList_load_row rfl 46 (.tmp 5) rfl w.heap.size rfl 46 _ (0,0) _ HN.out Tryz.underlying46 rfl (by kernel_rfl) ?_)
  clear hW0
  refine HP.out.mono ?_
  rintro e w2 ⟨rfl,hk⟩
  have HF := hZ0 (HBD.out _ (HK0.out.then hk));clear hk
  go_wp2
  go_end0
  exact HF.out
 ·subst h0
  rw [HS.out rfl]
  have HM1 : Hid (M.out.length + 1 <= maxLen) := hZ0 (by unfold maxLen;omega)
  have HM2 : Hid ((M.out.length + 1) * 24 <= 140737488355328) := hZ0 (by omega)
  clear HBAD HS
  go_enter Tryz.func143,Tryz.ntmps143
  go_wp2_with (refine wpList_load_row rfl 46 (.tmp 5) rfl w.heap.size rfl 46 _ (0,0) _ HN.out Tryz.underlying46 rfl (by kernel_rfl) ?_)
  clear hW0
  refine HP.out.mono ?_
  rintro e w2 ⟨rfl,hk⟩
  have hm2 := H.out.quiet (HK0.out.then hk)
  have HKW := hZ0 (HK0.out.then hk);clear hk
  have q : w2.cell? ⟨X.mb,11,none⟩ = some (.slice X.oA M.out.length X.oc) := Has.cell (hm2.c 0) 11
  have hrow : w2.ownsRow 0 143 2 (.slice X.oA M.out.length X.oc) M.out.length (ocells M.out) := hm2.c 10
  have HROW := hZ0 hrow;have HM := hZ0 hm2;clear hrow hm2
  have hmb : X.mb < w2.heap.size := (HM.out.c 0).lt rfl
  go_wp2_with (at_builtin;refine list_append_src elemOut (.tmp 19) (.tmp 23) rfl rfl (Value.slice X.oA M.out.length X.oc) rfl (own_kept HROW.out (F := NoF) (by (repeat' (first | (with_reducible first | exact kR0 | apply kP0 | apply kN0 | apply kD0 | apply kA0) | (right;simp;done)))) (fun _ _ x => x)) 1 rfl (Src.of_has (t := 143) (size := 2) (m := 1) (cs := #[.int .i64 to,.string s]) (by (repeat (first | with_reducible exact Has.new_at _ _ _ (by simp) | with_reducible apply Has.drew | with_reducible apply Has.drewN | with_reducible apply Has.alloc | (with_reducible apply Has.past <;> (try omega)) ))) rfl) (by simp [Value.oneCell']) HM1.out HM2.out ?_;intro A1 c1 w9 ho1 hg1 ha1;have hk9 : Kept (fun k => (Value.slice X.oA M.out.length X.oc).ownBlock = some k) w2 w9 := Kept.grownBy (by (repeat' (first | (with_reducible first | exact kR0 | apply kP0 | apply kN0 | apply kD0 | apply kA0) | (right;simp;done)))) hg1 (fun k hk => .inl hk);have hf9 : Has w9 X.mb 65 (mcellsM X M) := Has.kept (HM.out.c 0) hk9 (fun e => absurd (HM.out.ap 0 10 _ rfl e) (by decide));have f9 := hf9.frozen 11;have d9 := hf9.cell 11;have HO := hZ0 ho1;have HA := hZ0 ha1;have HK9 := hZ0 hk9;clear ho1 hg1 ha1 hk9 hf9)
  go_end0
  have hlen : (M.out ++ [(⟨to,s⟩ : OutR)]).length = M.out.length + 1 := by simp
  have hstep := Step.setOut (ws := w) (X0 := X) (M0 := M) (w := w2) (Step.refl H.out HKW.out) (w9 := w9) (A := A1) (c := c1) (l := M.out ++ [⟨to,s⟩]) (by rw [hlen,ocells_snoc];exact HO.out) HK9.out (fun k hk => by
   rw [hlen] at hk
   rcases HA.out with e | e
   ·exact .inl (e.symm.trans hk)
   ·have h9 := e.symm.trans hk
    injection h9 with h9
    simp at h9
    exact .inr (by omega))
  rw [hlen] at hstep
  exact ⟨rfl,_,hstep,⟨HB.out.n,HB.out.f,HB.out.l,HB.out.hd⟩⟩
end
end Mas
namespace Mas
open Plan Vn Mst Wat IM Nte Msg
def confMsg (s : StR) (A : Option Addr) (c : Nat) : MsgR := ⟨1,0,0,0,false,s.hz,0,0,0,0,0,⟨#[]⟩,⟨#[]⟩,s.ep,A,c,s.ms,s.fl,0,0,none,0,[],none,0,[],none,0,[],none,0,[]⟩
structure SU (s : StR) : Prop where
 hz : 0 <= s.hz /\ s.hz <= maxTs
 fl : 0 <= s.fl /\ s.fl <= maxTs
 pin : ∀ p ∈ s.pins,0 <= p.at' /\ p.at' <= maxTs
theorem confMsg_ok {w : World} {s : StR} {A : Option Addr} {c : Nat} (hs : Src w 2 A s.ms.length (mcells s.ms)) (hc : s.ms.length <= c) (hok : SOk s) (hu : SU s) : XOk w (confMsg s A c) :=
 ⟨hs,hc,hok.m,Src.nil _ _ _,Src.nil _ _ _,(fun y hy => by cases hy),Nat.zero_le _,Src.nil _ _ _,Nat.zero_le _,(fun y hy => by cases hy),Src.nil _ _ _,Nat.zero_le _,⟨hu.hz,⟨Int.le_refl 0,by show (0 : Int) <= maxTs;decide⟩,hu.fl⟩⟩
def whereM (M : MR) (to : Int) : MR := sendM M to (confMsg M.st none 0)
section
variable {w w' : World} {X X0 : MX} {M M0 : MR} {c : Nat}
theorem where_any (h : MAt w X M) (hb : LgB X M.lg c) (ho : M.out.length <= 1000) (hok : SOk M.st) (hu : SU M.st) (to : Int) :
  Calls Tryz.prog 60 #[.pointer (some ⟨X.mb,0,none⟩),.int .i64 to] w (MPost w X M c (.tuple #[]) (whereM M to) 0) := by
 have hq : ∀ W,Kept NoF w W -> W.cell? ⟨X.mb,2,none⟩ = some (.pointer (some ⟨X.sb,0,none⟩)) := fun W hW => Has.cell ((h.quiet hW).c 0) 2
 have hconf : ∀ W,Kept NoF w W -> Calls Tryz.prog 48 #[.pointer (some ⟨X.sb,0,none⟩)] W (OwnPost W M.st.ep M.st.fl M.st.ms) := fun W hW => conf_at ((h.quiet hW).c 2) hok
 have hhor : ∀ W,Kept NoF w W -> Calls Tryz.prog 69 #[.pointer (some ⟨X.sb,0,none⟩)] W fun e w' => e = .returned (.int .u64 M.st.hz) /\ Kept NoF W w' := fun W hW => horizon_at ((h.quiet hW).c 2)
 have hsend : ∀ W A d,Kept NoF w W -> Src W 2 A M.st.ms.length (mcells M.st.ms) -> M.st.ms.length <= d -> Calls Tryz.prog 143 #[.pointer (some ⟨X.mb,0,none⟩),.int .i64 to,xagg (confMsg M.st A d)] W fun e w' => MPost w X M c (.tuple #[]) (whereM M to) 0 e w' := fun W A d hW hs hd => by
  refine (send_any (h.quiet hW) hb ho to (confMsg M.st A d) (confMsg_ok hs hd hok hu)).mono ?_
  rintro e w' ⟨rfl,X',hs,hl⟩
  exact ⟨rfl,X',(Step.refl h hW).trans hs,hl⟩
 have hpost : ∀ e W,MPost w X M c (.tuple #[]) (whereM M to) 0 e W -> e = .returned (.tuple #[]) /\ W.cell? ⟨X.mb,2,none⟩ = some (.pointer (some ⟨X.sb,0,none⟩)) \/ True := fun e W _ => .inr trivial
 have HQ := hZ0 hq;have HC := hZ0 hconf;have HH := hZ0 hhor
 have HS0 := hZ0 hsend
 clear hq hconf hhor hsend hpost h hb ho hok hu
 obtain ⟨MM,hMM⟩ : ∃ MM,whereM M to = MM := ⟨_,rfl⟩
 rw [hMM] at HS0 ⊢
 clear hMM
 have hs1 : ∀ W A d,Kept NoF w W -> Src W 2 A M.st.ms.length (mcells M.st.ms) -> M.st.ms.length <= d -> Calls Tryz.prog 143 #[.pointer (some ⟨X.mb,0,none⟩),.int .i64 to,.agg (xcell (confMsg M.st A d)).toArray] W fun e w' => MPost w X M c (.tuple #[]) MM 0 e w' := HS0.out
 simp only [confMsg,xcell,List.length_nil] at hs1
 have HS := hZ0 hs1;clear hs1 HS0
 obtain ⟨ms,hms⟩ : ∃ ms,M.st.ms = ms := ⟨_,rfl⟩
 obtain ⟨hz,hhz⟩ : ∃ hz,M.st.hz = hz := ⟨_,rfl⟩
 obtain ⟨ep,hep⟩ : ∃ ep,M.st.ep = ep := ⟨_,rfl⟩
 obtain ⟨fl,hfl⟩ : ∃ fl,M.st.fl = fl := ⟨_,rfl⟩
 rw [hms,hep,hfl] at HC
 rw [hhz] at HH
 rw [hms,hhz,hep,hfl] at HS
 clear hms hhz hep hfl
 have z0 := HQ.out w (Kept.refl _ _)
 go_enter Tryz.func60,Tryz.ntmps60
 go_wp2_with fail
 go_region_held3 (fun W => W.cell? ⟨X.mb,2,none⟩ = some (.pointer (some ⟨X.sb,0,none⟩))) (first | with_reducible exact z3 | with_reducible exact z2 | with_reducible exact z1 | with_reducible exact z0 | (simp [go_sem,z0];done))
  (first
   | (have hx := HK1;clear hx;go_at_call 69;refine (HH.out _ (by (repeat' (first | (with_reducible first | exact kR0 | apply kP0 | apply kN0 | apply kD0 | apply kA0) | (exact HK1.out) | (right;simp;done))))).mono ?_;rintro e w2 ⟨rfl,hk2⟩;have hk := Kept.then (F := NoF) (a := w) (by (repeat' (first | (with_reducible first | exact kR0 | apply kP0 | apply kN0 | apply kD0 | apply kA0) | (exact HK1.out) | (right;simp;done)))) hk2;have z2 := HQ.out _ hk;have HR2 := hZ0 (NewSl.kept (NewSl.kept HR.out (by (repeat' (first | (with_reducible first | exact kR0 | apply kP0 | apply kN0 | apply kD0 | apply kA0) | (right;simp;done))))) hk2);have HK2 := hZ0 hk;clear hk hk2)
   | (go_at_call 48;refine (HC.out _ (by (repeat' (first | (with_reducible first | exact kR0 | apply kP0 | apply kN0 | apply kD0 | apply kA0) | (right;simp;done))))).mono ?_;rintro e w1 ⟨A,d,rfl,hr,hk1⟩;have hk := Kept.then (F := NoF) (a := w) (by (repeat' (first | (with_reducible first | exact kR0 | apply kP0 | apply kN0 | apply kD0 | apply kA0) | (right;simp;done)))) hk1;have z1 := HQ.out _ hk;have HR := hZ0 hr;have HK1 := hZ0 hk;clear hk hk1 hr)
   | (go_at_call 143;refine (HS.out _ A d (by (repeat' (first | (with_reducible first | exact kR0 | apply kP0 | apply kN0 | apply kD0 | apply kA0) | (exact HK2.out) | (right;simp;done)))) (Src.of_own (own_kept HR2.out.1 (F := NoF) (by (repeat' (first | (with_reducible first | exact kR0 | apply kP0 | apply kN0 | apply kD0 | apply kA0) | (right;simp;done)))) (fun _ _ z => z))) (own_cap HR2.out.1).1).mono ?_;rintro e w3 ⟨rfl,X',hst,hl⟩;have z3 : w3.cell? ⟨X.mb,2,none⟩ = some (.pointer (some ⟨X.sb,0,none⟩)) := (by have h1 : w3.cell? ⟨X'.mb,2,none⟩ = some (.pointer (some ⟨X'.sb,0,none⟩)) := Has.cell (hst.at'.c 0) 2;rw [hst.mb,hst.sb] at h1;exact h1);have HP := hZ0 (And.intro hst hl);clear hst hl))
 clear z0 z1 z2 z3
 go_end0
 exact ⟨rfl,X',HP.out.1,HP.out.2⟩
end
end Mas
namespace Mst
open Plan Vn Go.Sort
theorem elemNote : Elem Tryz.prog 167 100 18 192 := by
 obtain ⟨i0,hi,hz0,hz1,hz2⟩ := info_parts (show (Tryz.prog.info? 100).map (fun i => (i.zero,i.size,i.bytes)) = some (some (.agg #[.int .i64 0,.int .i64 0,.int .u64 0,.int .i64 0,.slice none 0 0,.int .u64 0,.slice none 0 0,.int .i64 0,.int .i64 0,.slice none 0 0,.int .u64 0,.int .i64 0,.int .u64 0,.int .i64 0,.int .i64 0,.int .i64 0,.int .i64 0,.int .i64 0]),18,192) by kernel_rfl)
 exact ⟨Tryz.underlying167,⟨i0,_,hi,hz0,hz1,hz2,rfl⟩,by decide⟩
theorem one_ncell (x : NoteR) : ∀ u ∈ ncell x,u.oneCell' = true := by
 intro u hu
 simp [ncell] at hu
 rcases hu with rfl | rfl | rfl | rfl | rfl | rfl | rfl | rfl | rfl | rfl | rfl | rfl | rfl | rfl | rfl | rfl | rfl | rfl <;> rfl
theorem ncells_snoc (l : List NoteR) (x : NoteR) : ncells (l ++ [x]) = ncells l ++ ncell x := by simp [ncells]
def zn : NoteR := ⟨0,0,0,0,none,0,[],0,none,0,[],none,0,⟨0,0,[]⟩,0,⟨0,0,0⟩,⟨0,0,0,0⟩⟩
def cnote (s : StR) (A : Option Addr) (c : Nat) (B : Option Addr) (d : Nat) : NoteR := { zn with k := 1,ep := s.ep,mA := A,mc := c,ms := s.ms,fl := s.fl,lA := B,lc := d,lg := s.lg }
def pnote (p : PinR) : NoteR := { zn with k := 6,pin := p }
def unote (n : Int) : NoteR := { zn with k := 7,n := n }
def hnote (h : Int) : NoteR := { zn with k := 4,at' := h }
def snote (a : AnsR) : NoteR := { zn with k := 8,said := a }
def upart (s : StR) : List NoteR := if s.pins.any (fun p => decide (p.id = s.top)) = true then [] else [unote s.top]
def told3 (s : StR) : List AnsR := [s.t0,s.t1,s.t2]
def sparts (l : List AnsR) : List NoteR := (l.filter fun a => decide (a ≠ ans0)).map snote
def PreAt (w : World) (s : StR) (pre : List NoteR) : Prop := (pre = [] /\ ¬ 0 < s.ep) \/ (0 < s.ep /\ ∃ A c B d,pre = [cnote s A c B d] /\ w.ownsRow 0 53 2 (.slice A s.ms.length c) s.ms.length (mcells s.ms) /\ w.ownsRow 0 3 1 (.slice B s.lg.length d) s.lg.length (ints s.lg))
theorem PreAt.row {w w' : World} {s : StR} {pre : List NoteR} {v : Value} {n : Nat} {xs : List Value} (h : PreAt w s pre) (ho : w.ownsRow 0 100 18 v n xs) (hk : Kept (RowOf v) w w') : PreAt w' s pre := by
 rcases h with h | ⟨h0,A,c,B,d,h1,h2,h3⟩
 ·exact .inl h
 ·refine .inr ⟨h0,A,c,B,d,h1,own_kept h2 hk (fun g hg hr => ?_),own_kept h3 hk (fun g hg hr => ?_)⟩
  ·obtain ⟨cs,hh⟩ := own_has ho hr
   exact own_ne h2 hh (by decide) hg
  ·obtain ⟨cs,hh⟩ := own_has ho hr
   exact own_ne h3 hh (by decide) hg
structure OutAt (w0 : World) (s : StR) (w : World) (pre l : List NoteR) (A : Option Addr) (c : Nat) : Prop where
 own : w.ownsRow 0 100 18 (.slice A l.length c) l.length (ncells l)
 new : ∀ k,RowOf (.slice A l.length c) k -> w0.heap.size <= k
 pre : PreAt w s pre
 kept : Kept NoF w0 w
theorem OutAt.still {w0 w w' : World} {s : StR} {pre l : List NoteR} {A : Option Addr} {c : Nat} (h : OutAt w0 s w pre l A c) (hk : Kept NoF w w') : OutAt w0 s w' pre l A c :=
 ⟨own_kept h.own hk (fun _ _ z => z),h.new,h.pre.row h.own (Kept.up hk),h.kept.then hk⟩
theorem OutAt.push {w0 w W w' : World} {s : StR} {pre l : List NoteR} {A A1 : Option Addr} {c c1 : Nat} (x : NoteR) (h : OutAt w0 s w pre l A c) (hW : Kept NoF w W)
  (ho : w'.ownsRow 0 100 18 (.slice A1 (l.length + 1) c1) (l.length + 1) (ncells l ++ ncell x)) (hg : W.grownBy w' (Value.slice A l.length c).ownBlock)
  (ha : (Value.slice A1 (l.length + 1) c1).ownBlock = (Value.slice A l.length c).ownBlock \/ (Value.slice A1 (l.length + 1) c1).ownBlock = some W.heap.size) : OutAt w0 s w' pre (l ++ [x]) A1 c1 := by
 have h2 := h.still hW
 refine ⟨?_,?_,?_,?_⟩
 ·rw [ncells_snoc,List.length_append];exact ho
 ·intro k hk
  rw [List.length_append] at hk
  rcases ha with e | e
  ·exact h.new k (e.symm.trans hk)
  ·have h9 := e.symm.trans hk
   injection h9 with h9
   have := h2.kept.size
   omega
 ·exact h2.pre.row h2.own (Kept.grown (Kept.refl _ _) hg (fun k hk => .inl hk))
 ·exact h2.kept.grown hg (fun k hk => .inr (h2.new k hk))
theorem notes1_any (w : World) (p : PinR) (g b : Nat) (s : StR) (mA : Option Addr) (mc : Nat) (lA : Option Addr) (lc : Nat) (pA : Option Addr) (pc : Nat) (hg : Has w g 57 #[.pointer (some ⟨b,0,none⟩)]) (hb : Has w b 171 (scells s mA mc lA lc pA pc true)) :
  Calls Tryz.prog 206 #[pagg p,.pointer (some ⟨g,0,none⟩)] w fun e w' => e = .returned (.bool (decide (p.id = s.top))) /\ Kept NoF w w' := by
 obtain ⟨p1,p2,p3⟩ := p
 obtain ⟨W0,hW0⟩ : ∃ W0,w.alloc (.cells #[.int .i64 p1,.int .u64 p2,.int .i64 p3] 79) = W0 := ⟨_,rfl⟩
 have hk0 : Kept NoF w W0 := by rw [<- hW0];(repeat' (first | (with_reducible first | exact kR0 | apply kP0 | apply kN0 | apply kD0 | apply kA0) | (right;simp;done)))
 have hn0 : Has W0 w.heap.size 79 #[.int .i64 p1,.int .u64 p2,.int .i64 p3] := by rw [<- hW0];exact Has.new _ _ _
 have c0 : W0.cell? ⟨w.heap.size,0,none⟩ = some (.int .i64 p1) := hn0.cell 0
 have c1 : W0.cell? ⟨g,0,none⟩ = some (.pointer (some ⟨b,0,none⟩)) := (hg.kept hk0 (fun z => z)).cell 0
 have c6 : W0.cell? ⟨b,6,none⟩ = some (.int .i64 s.top) := (hb.kept hk0 (fun z => z)).cell 6
 have HK0 := hZ0 hk0
 clear hn0 hg hb hk0
 go_enter Tryz.func206,Tryz.ntmps206
 go_wp2_with fail
 clear hW0
 go_quiet (fail)
 go_wp2
 go_ret
 exact ⟨rfl,HK0.out.drewN _⟩
end Mst
namespace Mst
open Plan Vn Go.Sort
def runN (s : StR) (l : List NoteR) : StR := l.foldl applyS s
def lastId (l : List PinR) : Int := (l.getLast?.map (·.id)).getD 0
end Mst
end Go.Proofs.YtolkgbafebehfaaGreat

/- Part 19 of what the proof needs. -/
import Derived.Test.YtgbigpdiacjbgaaGreatKO00
import Derived.Test.YtgbigpdiacjbgaaGreatKO01
import Derived.Test.YtgbigpdiacjbgaaGreatKO02
import Derived.Test.YtgbigpdiacjbgaaGreatKO03
import Derived.Test.YtgbigpdiacjbgaaGreatKO11
import Derived.Test.YtgbigpdiacjbgaaGreatKO17
import Derived.Test.YtgbigpdiacjbgaaGreatChecked
import Derived.Shelf.SlSortCmp.WholeK
import Derived.Shelf.SlSortCmp.NoneTotal
import Derived.Ground.SlsfProg
import Derived.Maps.RangeWalk
import Derived.Deep.RegionHeld3
import Derived.Deep.DeepFit
import Derived.Laws.IdiomStrings
import Derived.WalkKit
import Derived.WalkSpells
import Derived.WalkLawsBesides
import Derived.Lib.Hide
import Derived.Lib.SlBytesRow
import Derived.BigQuiet
import Derived.Deep.QuietTactic
import Derived.BigRegion
import Derived.Deep.RegionLaw
import Derived.StillTailTactics
import Derived.Shelf.SlIter.Nil
import Derived.Shelf.SortM.Plain
import Derived.Shelf.SortM.SortNone
import Derived.Ground.GgzProg
import Derived.Ground.SlgmProg
import Derived.Sort.OwnSortedInts
set_option linter.unusedSimpArgs false
set_option linter.unusedVariables false
set_option maxHeartbeats 32000000
set_option maxRecDepth 100000
namespace Go.Proofs.YtgbigpdiacjbgaaGreat
open Go.RowKit
set_option maxRecDepth 100000
namespace Cli
open Plan Ops Ent Msg Go.Proofs.YtgbigpdiacjbgaaGreat.Ask
structure OutR where
 to : Int
 body : ByteArray
def ocell (o : OutR) : List Value := [.int .i64 o.to,.string o.body]
def ocells (l : List OutR) : List Value := l.flatMap ocell
theorem ocells_snoc (l : List OutR) (o : OutR) : ocells (l ++ [o]) = ocells l ++ [.int .i64 o.to,.string o.body] := by
 unfold ocells
 rw [List.flatMap_append]
 rfl
theorem elemOut : Elem Tryz.prog 39 54 2 24 := ⟨Tryz.underlying39,⟨_,_,rfl,rfl,rfl,rfl,rfl⟩,by decide⟩
structure CLR where
 id : Int
 req : Int
 ep : Int
 hd : Int
 t : Option TS
 r : RepR
 has : Bool
 as' : Bool
 tk : Int
structure CX where
 cb : Nat
 px : PX
 rA : Option Addr
 rc : Nat
def tptr (X : CX) (C : CLR) : Value := match C.t with
 | none => .pointer none
 | some _ => .pointer (some ⟨X.px.b,0,none⟩)
def ccells (X : CX) (C : CLR) : Array Value := #[.int .i64 C.id,.int .i64 C.req,.int .i64 C.ep,.int .i64 C.hd,tptr X C,.int .i64 C.r.req,.int .i64 C.r.e,.int .u64 C.r.at',.int .i64 C.r.pin,.slice X.rA C.r.ps.length X.rc,.bool C.has,.bool C.as',.int .i64 C.tk,.bool true]
structure ClAt (w : World) (X : CX) (C : CLR) : Prop where
 b : Has w X.cb 38 (ccells X C)
 t : ∀ t,C.t = some t -> PAt w X.px t /\ ¬ foot X.px t X.cb
 r : w.ownsRow 0 84 2 (.slice X.rA C.r.ps.length X.rc) C.r.ps.length (pcells C.r.ps)
 ar : ∀ k,(Value.slice X.rA C.r.ps.length X.rc).ownBlock = some k -> k ≠ X.cb /\ ∀ t,C.t = some t -> ¬ foot X.px t k
def cfoot (X : CX) (C : CLR) (k : Nat) : Prop := k = X.cb \/ (∃ t,C.t = some t /\ foot X.px t k) \/ (Value.slice X.rA C.r.ps.length X.rc).ownBlock = some k
section
variable {w w' : World} {X : CX} {C : CLR} {G : Nat -> Prop}
theorem ClAt.keptG (h : ClAt w X C) (hk : Kept G w w') (hs : ∀ k,cfoot X C k -> ¬ G k) : ClAt w' X C :=
 ⟨h.b.kept hk (hs _ (.inl rfl)),fun t e => ⟨(h.t t e).1.keptG hk (fun k hf => hs k (.inr (.inl ⟨t,e,hf⟩))),(h.t t e).2⟩,own_kept h.r hk (fun k hk => hs k (.inr (.inr hk))),h.ar⟩
theorem ClAt.quiet (h : ClAt w X C) (hk : Kept NoF w w') : ClAt w' X C := h.keptG hk (fun _ _ z => z)
theorem ClAt.lt (h : ClAt w X C) {k : Nat} (hf : cfoot X C k) : k < w.heap.size := by
 rcases hf with rfl | ⟨t,e,hf⟩ | hf
 ·exact h.b.lt
 ·exact (h.t t e).1.lt hf
 ·exact own_lt h.r hf
theorem tptr_none (h : C.t = none) : tptr X C = .pointer none := by unfold tptr;rw [h]
theorem tptr_some {t : TS} (h : C.t = some t) : tptr X C = .pointer (some ⟨X.px.b,0,none⟩) := by unfold tptr;rw [h]
theorem cnone_any (h : ClAt w X C) : Calls Tryz.prog 24 #[.pointer (some ⟨X.cb,0,none⟩)] w fun e w' => e = .returned (.bool false) /\ w = w' := by
 have q : w.cell? ⟨X.cb,13,none⟩ = some (.bool true) := h.b.cell 13
 obtain ⟨cb,hcb⟩ : ∃ cb,X.cb = cb := ⟨_,rfl⟩
 rw [hcb] at q ⊢
 clear h hcb
 go_enter Tryz.func24,Tryz.ntmps24
 go_wp2
 go_ret
 exact ⟨rfl,rfl⟩
structure BoxAt (w : World) (lb : Nat) (A : Option Addr) (c : Nat) (L : List OutR) : Prop where
 b : Has w lb 39 #[.slice A L.length c]
 r : w.ownsRow 0 54 2 (.slice A L.length c) L.length (ocells L)
 ap : (Value.slice A L.length c).ownBlock ≠ some lb
def bfoot (lb : Nat) (A : Option Addr) (n c : Nat) (k : Nat) : Prop := k = lb \/ (Value.slice A n c).ownBlock = some k
theorem BoxAt.keptG {lb c : Nat} {A : Option Addr} {L : List OutR} (h : BoxAt w lb A c L) (hk : Kept G w w') (hs : ∀ k,bfoot lb A L.length c k -> ¬ G k) : BoxAt w' lb A c L :=
 ⟨h.b.kept hk (hs _ (.inl rfl)),own_kept h.r hk (fun k hk => hs k (.inr hk)),h.ap⟩
theorem BoxAt.quiet {lb c : Nat} {A : Option Addr} {L : List OutR} (h : BoxAt w lb A c L) (hk : Kept NoF w w') : BoxAt w' lb A c L := h.keptG hk (fun _ _ z => z)
theorem BoxAt.lt {lb c k : Nat} {A : Option Addr} {L : List OutR} (h : BoxAt w lb A c L) (hf : bfoot lb A L.length c k) : k < w.heap.size := by
 rcases hf with rfl | hf
 ·exact h.b.lt
 ·exact own_lt h.r hf
theorem outs_any (w : World) : Calls Tryz.prog 26 #[] w fun e w' => ∃ lb,e = .returned (.tuple #[.func (.func 52) #[] #[.pointer (some ⟨lb,0,none⟩)],.func (.func 54) #[] #[.pointer (some ⟨lb,0,none⟩)]]) /\ BoxAt w' lb none 0 [] /\ w.heap.size <= lb /\ Kept NoF w w' := by
 go_enter Tryz.func26,Tryz.ntmps26
 go_wp2
 go_ret2
 exact ⟨w.heap.size,rfl,⟨Has.new _ _ _,⟨rfl,.inl ⟨rfl,rfl⟩⟩,by simp [Value.ownBlock]⟩,Nat.le_refl _,by (repeat' (first | (with_reducible first | exact kR0 | apply kP0 | apply kN0 | apply kD0 | apply kA0) | (right;simp;done)))⟩
def mB (s : ByteArray) : ByteArray := ⟨#[77]⟩ ++ s
def putO (L : List OutR) (to : Int) (m : MsgR) : List OutR := if chkM m = 0 /\ 0 <= to then L ++ [⟨to,mB (msgR m)⟩] else L
def PutPost (w : World) (lb : Nat) (A : Option Addr) (c : Nat) (L L' : List OutR) (e : Ending) (w' : World) : Prop :=
 e = .returned (.tuple #[]) /\ ∃ A' c',BoxAt w' lb A' c' L' /\ Kept (bfoot lb A L.length c) w w' /\ ∀ k,bfoot lb A' L'.length c' k -> bfoot lb A L.length c k \/ w.heap.size <= k
theorem msgR_len {m : MsgR} (hx : XOk w m) (h : chkM m = 0) : (msgR m).size <= 100000 := by
 obtain ⟨hkk,hwr⟩ := chkM_ok h
 have hk15 : 1 <= m.k /\ m.k <= 15 := of_decide_eq_true hkk
 have hl7 := parts_len m.k
 have h1 := flatLen (partB m) (partsOf m.k) 1100 (fun y hy => partB_len hx (hwr y hy))
 have h2 := putN_len (n := m.k.toNat) (by omega)
 unfold msgR
 rw [if_pos h]
 show (putM m).toArray.size <= _
 rw [List.size_toArray]
 unfold putM
 rw [List.length_append]
 omega
theorem Kept.up' {F : Nat -> Prop} {a b : World} (h : Kept NoF a b) : Kept F a b := h.mono (fun _ z => z.elim)
theorem put_any {lb c : Nat} {A : Option Addr} {L : List OutR} (h : BoxAt w lb A c L) (hl : L.length <= 1000) (to : Int) (m : MsgR) (hm : XOk w m) :
  Calls Tryz.prog 52 #[.int .i64 to,xagg m,.pointer (some ⟨lb,0,none⟩)] w (PutPost w lb A c L (putO L to m)) := by
 obtain ⟨W0,hW0⟩ : ∃ W0,w.alloc (.cells (xcell m).toArray 63) = W0 := ⟨_,rfl⟩
 have hk0 : Kept NoF w W0 := by rw [<- hW0];(repeat' (first | (with_reducible first | exact kR0 | apply kP0 | apply kN0 | apply kD0 | apply kA0) | (right;simp;done)))
 have hn0 : Has W0 w.heap.size 63 (xcell m).toArray := by rw [<- hW0];exact Has.new _ _ _
 have hput := mput_any W0 m (hm.kept hk0)
 have hbad : ¬ (chkM m = 0 /\ 0 <= to) -> ∀ W,Kept NoF w W -> PutPost w lb A c L (putO L to m) (.returned (.tuple #[])) W := fun h0 W hW => by
  unfold putO
  rw [if_neg h0]
  exact ⟨rfl,A,c,h.quiet hW,Kept.up' hW,fun k hk => .inl hk⟩
 have hS : chkM m = 0 -> 0 <= to -> putO L to m = L ++ [⟨to,mB (msgR m)⟩] := fun h0 h1 => if_pos ⟨h0,h1⟩
 have hsz : chkM m = 0 -> (msgR m).size <= 100000 := msgR_len hm
 obtain ⟨z,hz⟩ : ∃ z,chkM m = z := ⟨_,rfl⟩
 obtain ⟨s,hs⟩ : ∃ s,msgR m = s := ⟨_,rfl⟩
 rw [hz] at hput hbad hS hsz
 rw [hs] at hput hS hsz
 have HP := hZ0 hput;have HN := hZ0 hn0;have HK0 := hZ0 hk0;have HBAD := hZ0 hbad;have HS := hZ0 hS;have H := hZ0 h
 clear hput hn0 hk0 hbad hS h hm hz hs
 by_cases h0 : z = 0
 rotate_left
 ·have h2 : (z == 0) = false := by simpa using h0
  have HBD := hZ0 (HBAD.out (fun x => h0 x.1));clear h0 HBAD hsz
  go_enter Tryz.func52,Tryz.ntmps52
  go_wp2_with (refine wpList_load_row rfl 63 (.tmp 4) rfl w.heap.size rfl 63 _ (0,0) _ HN.out Tryz.underlying63 rfl (by kernel_rfl) ?_)
  clear hW0
  refine HP.out.mono ?_
  rintro e w2 ⟨rfl,hk⟩
  have HF := hZ0 (HBD.out _ (HK0.out.then hk));clear hk
  go_wp2
  go_end0
  exact HF.out
 subst h0
 by_cases h1 : 0 <= to
 rotate_left
 ·have HBD := hZ0 (HBAD.out (fun x => h1 x.2));clear HBAD hsz
  go_enter Tryz.func52,Tryz.ntmps52
  go_wp2_with (refine wpList_load_row rfl 63 (.tmp 4) rfl w.heap.size rfl 63 _ (0,0) _ HN.out Tryz.underlying63 rfl (by kernel_rfl) ?_)
  clear hW0
  refine HP.out.mono ?_
  rintro e w2 ⟨rfl,hk⟩
  have HF := hZ0 (HBD.out _ (HK0.out.then hk));clear hk
  go_wp2
  go_end0
  exact HF.out
 rw [HS.out rfl h1]
 have HM1 : Hid (L.length + 1 <= maxLen) := hZ0 (by unfold maxLen;omega)
 have HM2 : Hid ((L.length + 1) * 24 <= 140737488355328) := hZ0 (by omega)
 have hsum : ¬ 9223372036854775807 < (⟨#[77]⟩ : ByteArray).size + s.size := by have := hsz rfl;have e1 : (⟨#[77]⟩ : ByteArray).size = 1 := rfl;omega
 clear HBAD HS hsz
 go_enter Tryz.func52,Tryz.ntmps52
 go_wp2_with (refine wpList_load_row rfl 63 (.tmp 4) rfl w.heap.size rfl 63 _ (0,0) _ HN.out Tryz.underlying63 rfl (by kernel_rfl) ?_)
 clear hW0
 refine HP.out.mono ?_
 rintro e w2 ⟨rfl,hk⟩
 have hb2 := H.out.quiet (HK0.out.then hk)
 have HKW := hZ0 (HK0.out.then hk);clear hk
 have q : w2.cell? ⟨lb,0,none⟩ = some (.slice A L.length c) := hb2.b.cell 0
 have HB := hZ0 hb2;clear hb2
 have hlb : lb < w2.heap.size := HB.out.b.lt
 go_wp2_with (at_builtin;refine list_append_src elemOut (.tmp 18) (.tmp 23) rfl rfl (Value.slice A L.length c) rfl (own_kept HB.out.r (F := NoF) (by (repeat' (first | (with_reducible first | exact kR0 | apply kP0 | apply kN0 | apply kD0 | apply kA0) | (right;simp;done)))) (fun _ _ x => x)) 1 rfl (Src.of_has (t := 54) (size := 2) (m := 1) (cs := #[.int .i64 to,.string (⟨#[77]⟩ ++ s)]) (by (repeat (first | with_reducible exact Has.new_at _ _ _ (by simp) | with_reducible apply Has.drew | with_reducible apply Has.drewN | with_reducible apply Has.alloc | (with_reducible apply Has.past <;> (try omega)) ))) rfl) (by simp [Value.oneCell']) HM1.out HM2.out ?_;intro A1 c1 w9 ho1 hg1 ha1;have hk9 : Kept (fun k => (Value.slice A L.length c).ownBlock = some k) w2 w9 := Kept.grownBy (by (repeat' (first | (with_reducible first | exact kR0 | apply kP0 | apply kN0 | apply kD0 | apply kA0) | (right;simp;done)))) hg1 (fun k hk => .inl hk);have hf9 : Has w9 lb 39 #[.slice A L.length c] := Has.kept HB.out.b hk9 HB.out.ap;have f9 := hf9.frozen 0;have d9 := hf9.cell 0;have HO := hZ0 ho1;have HA := hZ0 ha1;have HK9 := hZ0 hk9;have HF9 := hZ0 hf9;clear ho1 hg1 ha1 hk9 hf9)
 go_end0
 have hlen : (L ++ [(⟨to,mB s⟩ : OutR)]).length = L.length + 1 := by simp
 have hnb : ∀ k,(Value.slice A1 (L.length + 1) c1).ownBlock = some k -> (Value.slice A L.length c).ownBlock = some k \/ w2.heap.size <= k := fun k hk => by
  rcases HA.out with e | e
  ·exact .inl (e.symm.trans hk)
  ·have h9 := e.symm.trans hk
   injection h9 with h9
   simp at h9
   exact .inr (by omega)
 have hap : (Value.slice A1 (L.length + 1) c1).ownBlock ≠ some lb := fun e => by
  rcases hnb _ e with y | y
  ·exact HB.out.ap y
  ·omega
 refine ⟨rfl,A1,c1,⟨?_,?_,by rw [hlen];exact hap⟩,?_,fun k hk => ?_⟩
 ·rw [hlen];exact Has.put_of HF9.out rfl
 ·rw [hlen,ocells_snoc]
  exact own_kept (F := fun k => k = lb) HO.out ((Kept.refl _ w9).put (.inl rfl)) (fun g hg2 e => by subst e;exact hap hg2)
 ·exact ((Kept.up' (F := bfoot lb A L.length c) HKW.out).trans HK9.out (fun k hk => .inl (.inr hk))).put (.inl (.inl rfl))
 ·rw [hlen] at hk
  rcases hk with rfl | hk
  ·exact .inl (.inl rfl)
  ·rcases hnb k hk with y | y
   ·exact .inl (.inr y)
   ·have := HKW.out.size;exact .inr (by omega)
end
end Cli
end Go.Proofs.YtgbigpdiacjbgaaGreat
namespace Go.Proofs.YtgbigpdiacjbgaaGreat
open Go.Shelf Go.Sort Go.RowKit Go.Maps Go.Proofs
set_option maxRecDepth 100000
namespace Nrm
def sortFA_ren : Go.Shelf.Ren := ⟨fun | 6 => 82 | 15 => 124 | 14 => 123 | 28 => 165 | 29 => 166 | 20 => 157 | 21 => 158 | 22 => 159 | 23 => 160 | 24 => 161 | 25 => 162 | 26 => 163 | 27 => 164 | 46 => 178 | 47 => 179 | 48 => 180 | 49 => 181 | 50 => 182 | 57 => 186 | n => n,fun | 22 => 144 | 24 => 145 | 25 => 147 | 3 => 3 | 39 => 201 | 0 => 0 | 53 => 243 | 55 => 22 | 4 => 4 | 46 => 236 | 45 => 235 | 50 => 240 | 5 => 5 | 9 => 9 | 66 => 256 | 70 => 161 | 76 => 262 | 77 => 44 | n => n,fun | n => n⟩
theorem sortFA : Go.Proofs.SlLaysF0.n6 Tryz.prog sortFA_ren := {
 mixed := by kernel_rfl
 f6 := ⟨Tryz.f82.name,by decide,Tryz.func82.trans (congrArg some (by kernel_rfl))⟩
 f14 := ⟨Tryz.f123.name,by decide,Tryz.func123.trans (congrArg some (by kernel_rfl))⟩
 f15 := Tryz.func124.trans (congrArg some (by kernel_rfl))
 f20 := ⟨Tryz.f157.name,by decide,Tryz.func157.trans (congrArg some (by kernel_rfl))⟩
 f21 := ⟨Tryz.f158.name,by decide,Tryz.func158.trans (congrArg some (by kernel_rfl))⟩
 f22 := ⟨Tryz.f159.name,by decide,Tryz.func159.trans (congrArg some (by kernel_rfl))⟩
 f23 := ⟨Tryz.f160.name,by decide,Tryz.func160.trans (congrArg some (by kernel_rfl))⟩
 f24 := ⟨Tryz.f161.name,by decide,Tryz.func161.trans (congrArg some (by kernel_rfl))⟩
 f25 := ⟨Tryz.f162.name,by decide,Tryz.func162.trans (congrArg some (by kernel_rfl))⟩
 f26 := ⟨Tryz.f163.name,by decide,Tryz.func163.trans (congrArg some (by kernel_rfl))⟩
 f27 := ⟨Tryz.f164.name,by decide,Tryz.func164.trans (congrArg some (by kernel_rfl))⟩
 f28 := Tryz.func165.trans (congrArg some (by kernel_rfl))
 f29 := Tryz.func166.trans (congrArg some (by kernel_rfl))
 f46 := ⟨Tryz.f178.name,by decide,Tryz.func178.trans (congrArg some (by kernel_rfl))⟩
 f47 := Tryz.func179.trans (congrArg some (by kernel_rfl))
 f48 := Tryz.func180.trans (congrArg some (by kernel_rfl))
 f49 := ⟨Tryz.f181.name,by decide,Tryz.func181.trans (congrArg some (by kernel_rfl))⟩
 f50 := ⟨Tryz.f182.name,by decide,Tryz.func182.trans (congrArg some (by kernel_rfl))⟩
 f57 := ⟨Tryz.f186.name,by decide,Tryz.func186.trans (congrArg some (by kernel_rfl))⟩
 t0 := Tryz.underlying0
 a0 := Tryz.isAgg0
 z0 := Tryz.sizeOf0
 v0 := Tryz.zeroValue0
 t3 := Tryz.underlying3
 a3 := Tryz.isAgg3
 z3 := Tryz.sizeOf3
 v3 := Tryz.zeroValue3
 t4 := Tryz.underlying4
 a4 := Tryz.isAgg4
 z4 := Tryz.sizeOf4
 v4 := Tryz.zeroValue4
 t5 := Tryz.underlying5
 a5 := Tryz.isAgg5
 z5 := Tryz.sizeOf5
 v5 := Tryz.zeroValue5
 t9 := Tryz.underlying9
 a9 := Tryz.isAgg9
 z9 := Tryz.sizeOf9
 v9 := Tryz.zeroValue9
 t22 := Tryz.underlying144
 a22 := Tryz.isAgg144
 z22 := Tryz.sizeOf144
 v22 := Tryz.zeroValue144
 t25 := Tryz.underlying147
 a25 := Tryz.isAgg147
 z25 := Tryz.sizeOf147
 v25 := Tryz.zeroValue147
 t39 := Tryz.underlying201
 a39 := Tryz.isAgg201
 z39 := Tryz.sizeOf201
 v39 := Tryz.zeroValue201
 t45 := Tryz.underlying235
 a45 := Tryz.isAgg235
 z45 := Tryz.sizeOf235
 v45 := Tryz.zeroValue235
 t46 := Tryz.underlying236
 a46 := Tryz.isAgg236
 z46 := Tryz.sizeOf236
 v46 := Tryz.zeroValue236
 t50 := Tryz.underlying240
 a50 := Tryz.isAgg240
 z50 := Tryz.sizeOf240
 v50 := Tryz.zeroValue240
 t53 := Tryz.underlying243
 a53 := Tryz.isAgg243
 z53 := Tryz.sizeOf243
 v53 := Tryz.zeroValue243
 t55 := Tryz.underlying22
 a55 := Tryz.isAgg22
 z55 := Tryz.sizeOf22
 v55 := Tryz.zeroValue22
 t66 := Tryz.underlying256
 a66 := Tryz.isAgg256
 z66 := Tryz.sizeOf256
 v66 := Tryz.zeroValue256
 t70 := Tryz.underlying161
 a70 := Tryz.isAgg161
 z70 := Tryz.sizeOf161
 v70 := Tryz.zeroValue161
 t76 := Tryz.underlying262
 a76 := Tryz.isAgg262
 z76 := Tryz.sizeOf262
 v76 := Tryz.zeroValue262
 t77 := Tryz.underlying44
 a77 := Tryz.isAgg44
 z77 := Tryz.sizeOf44
 v77 := Tryz.zeroValue44 }
theorem sortF_none (p : Option Addr) (cap : Nat) (fv : Value) (w : World) : Calls Tryz.prog 82 #[.slice p 0 cap,fv] w fun e w' => e = .returned (.tuple #[]) /\ w' = w :=
 AnyF.slices_SortFunc_none sortFA p cap fv w
end Nrm
end Go.Proofs.YtgbigpdiacjbgaaGreat
namespace Go.Proofs.YtgbigpdiacjbgaaGreat
open Go.RowKit
set_option maxRecDepth 100000
namespace Keys
def bl (l : List ByteArray) : List BL := l.map ByteArray.toList
end Keys
end Go.Proofs.YtgbigpdiacjbgaaGreat
namespace Go.Proofs.YtgbigpdiacjbgaaGreat
open Go.RowKit Go.Maps
set_option maxRecDepth 100000
namespace Ops
open Vn
theorem elemOp : Elem Tryz.prog 23 143 3 40 := by
 obtain ⟨i0,hi,hz0,hz1,hz2⟩ := info_parts (show (Tryz.prog.info? 143).map (fun i => (i.zero,i.size,i.bytes)) = some (some (.agg #[.string ⟨#[]⟩,.string ⟨#[]⟩,.bool false]),3,40) by kernel_rfl)
 exact ⟨Tryz.underlying23,⟨i0,_,hi,hz0,hz1,hz2,rfl⟩,by decide⟩
end Ops
end Go.Proofs.YtgbigpdiacjbgaaGreat
namespace Go.Proofs.YtgbigpdiacjbgaaGreat
open Go.RowKit
set_option maxRecDepth 100000
namespace Ops
open Vn
def stepL (f : BL -> Option OpR) (o : OpR) : BL -> Option OpR := fun x => if x = bl o.key then some o else f x
def lastF (m : List OpR) : BL -> Option OpR := m.foldl stepL fun _ => none
def o0 : OpR := ⟨⟨#[]⟩,⟨#[]⟩,false⟩
def normK (m : List OpR) : List BL := Keys.setL (m.map fun o => bl o.key)
def normL (m : List OpR) : List OpR := (normK m).map fun x => (lastF m x).getD o0
theorem lastF_snoc (m : List OpR) (i : Nat) (o : OpR) (h : m[i]? = some o) : lastF (m.take (i + 1)) = stepL (lastF (m.take i)) o := by
 unfold lastF
 rw [List.take_add_one,h,Option.toList_some,List.foldl_append]
 rfl
def NewOps (w : World) (l : List OpR) (e : Ending) (w' : World) : Prop :=
 ∃ A c,e = .returned (.slice A l.length c) /\ NewSl 143 3 w.heap.size w' A l.length c (cells l) /\ Kept NoF w w'
theorem cells_at {l : List OpR} {i : Nat} {o : OpR} (h : l[i]? = some o) : cells (l.take (i + 1)) = cells (l.take i) ++ [.string o.key,.string o.val,.bool o.del] := by
 rw [List.take_add_one,h,Option.toList_some]
 unfold cells
 rw [List.flatMap_append]
 simp [cell]
def oarr (o : OpR) : Array Value := #[.string o.key,.string o.val,.bool o.del]
end Ops
namespace Ops
open Vn
theorem lastF_key {m : List OpR} {x : BL} {o : OpR} (h : lastF m x = some o) : bl o.key = x /\ o ∈ m := by
 suffices ∀ (m : List OpR) (g : BL -> Option OpR),m.foldl stepL g x = some o -> g x = some o \/ (bl o.key = x /\ o ∈ m) by
  rcases this m _ h with h1 | h1
  ·cases h1
  ·exact h1
 intro m
 induction m with
 | nil => intro g h;exact .inl h
 | cons p m ih =>
  intro g h
  rcases ih _ h with h1 | ⟨h1,h2⟩
  ·unfold stepL at h1
   split at h1
   ·rename_i e
    injection h1 with h1
    subst h1
    exact .inr ⟨e.symm,by simp⟩
   ·exact .inl h1
  ·exact .inr ⟨h1,List.mem_cons_of_mem _ h2⟩
theorem lastF_some {m : List OpR} {x : BL} (h : x ∈ m.map fun o => bl o.key) : ∃ o,lastF m x = some o := by
 suffices ∀ (m : List OpR) (g : BL -> Option OpR),((∃ o,g x = some o) \/ x ∈ m.map fun o => bl o.key) -> ∃ o,m.foldl stepL g x = some o from this m _ (.inr h)
 intro m
 induction m with
 | nil =>
  intro g h
  rcases h with h | h
  ·exact h
  ·cases h
 | cons p m ih =>
  intro g h
  rw [List.foldl_cons]
  refine ih _ ?_
  by_cases e : x = bl p.key
  ·exact .inl ⟨p,by unfold stepL;rw [if_pos e]⟩
  ·rcases h with ⟨o,h⟩ | h
   ·exact .inl ⟨o,by unfold stepL;rw [if_neg e];exact h⟩
   ·rw [List.map_cons,List.mem_cons] at h
    rcases h with h | h
    ·exact absurd h e
    ·exact .inr h
theorem normK_mem {m : List OpR} {x : BL} : x ∈ normK m ↔ x ∈ m.map fun o => bl o.key := Keys.mem_set _ _
end Ops
end Go.Proofs.YtgbigpdiacjbgaaGreat
namespace Go.Proofs.YtgbigpdiacjbgaaGreat
open Go.Shelf Go.Sort Go.RowKit Go.Maps Go.Proofs
set_option maxRecDepth 100000
namespace Nrm
open Ops
theorem holds_of_blockK {w : World} {g : Nat} {cur : Array Value} {e : TypeId} {xs : List Value} (hb : w.heap[g]? = some (.cells cur e (0,0))) (ht : cur.toList.take xs.length = xs) : Holds id w g 0 xs.toArray := by
 intro j hj
 have hj' : j < xs.length := by simpa using hj
 refine ⟨?_,by simp [World.frozen?,hb]⟩
 have h1 : (cur.toList.take xs.length)[j]? = xs[j]? := by rw [ht]
 rw [List.getElem?_take_of_lt hj'] at h1
 simp only [World.cell?,hb,Nat.zero_add]
 simp only [Option.isSome_none,Bool.false_eq_true,if_false]
 rw [<- Array.getElem?_toList,h1]
 simp [hj']
theorem heap_sortedK {w : World} {g n : Nat} {os : Array Obj} {cur : Array Value} {e : TypeId} {fr : Nat × Nat} (d : Array Value) (hb : w.heap[g]? = some (.cells cur e fr)) :
  (grow (putRow id (Sort.ahead w n) g 0 d) os).heap[g]? = some (.cells (putCells id 0 d cur) e fr) := by
 have hg : g < w.heap.size := (Array.getElem?_eq_some_iff.1 hb).1
 rw [heap_grow_old _ _ (by simpa using hg)]
 simp [putRow,mapBlock,Sort.ahead,Array.getElem?_modify,hb,onCells]
theorem grownBy_sortedK {w : World} {g n : Nat} {os : Array Obj} (d : Array Value) : w.grownBy (grow (putRow id (Sort.ahead w n) g 0 d) os) (some g) := by
 refine ⟨rfl,rfl,rfl,by simp,fun k hk hne => ?_⟩
 rw [heap_grow_old _ _ (by simpa using hk)]
 have : g ≠ k := fun e => hne (by rw [e])
 simp [putRow,mapBlock,Sort.ahead,Array.getElem?_modify,this]
theorem take_putCellsK (cur : Array Value) (ts : List Value) (h : ts.length <= cur.size) : (putCells id 0 ts.toArray cur).toList.take ts.length = ts := by
 apply List.ext_getElem?
 intro j
 by_cases hj : j < ts.length
 ·rw [List.getElem?_take_of_lt hj,Array.getElem?_toList]
  simp [putCells,hj,show j < cur.size by omega]
 ·rw [List.getElem?_take_eq_none (by omega),List.getElem?_eq_none (by omega)]
theorem ownsRow_sortedK {w : World} {base g cap n m sz : Nat} {e : TypeId} {os : Array Obj} {cur : Array Value} {ts : List Value} (hl : ts.length = m * sz) (hbase : base <= g) (hb : w.heap[g]? = some (.cells cur e (0,0)))
  (h1 : m <= cap) (h2 : cap <= maxLen) (h3 : cur.size = cap * sz) :
  (grow (putRow id (Sort.ahead w n) g 0 ts.toArray) os).ownsRow base e sz (.slice (some ⟨g,0,none⟩) m cap) m ts :=
 ⟨hl,.inr ⟨g,cap,_,rfl,hbase,heap_sortedK _ hb,h1,h2,by simp [putCells,h3],by rw [<- hl];exact take_putCellsK cur ts (by rw [h3,hl];exact Nat.mul_le_mul_right _ h1)⟩⟩
theorem flatK_list {α : Type} [Inhabited α] (enc : α -> List Value) (k : Nat) (hpos : 0 < k) (hk : ∀ x,(enc x).length = k) (l : List α) : flatK enc k l.toArray = (l.flatMap enc).toArray := by
 have hlen : (l.flatMap enc).length = l.length * k := by
  induction l with
  | nil => simp
  | cons a l ih => rw [List.flatMap_cons,List.length_append,hk,ih,List.length_cons,Nat.succ_mul];omega
 refine Array.ext (by simp [hlen]) fun t h1 h2 => ?_
 have ht : t < l.length * k := by simpa using h1
 have e1 := get_flatK enc k l.toArray t (by simpa using ht)
 rw [getElem!_pos _ t h1] at e1
 rw [e1]
 have htk : t / k < l.length := Nat.div_lt_of_lt_mul (by rwa [Nat.mul_comm])
 have hf := flat_get enc k hpos hk l t
 rw [List.getElem?_eq_getElem htk,Option.bind_some] at hf
 have hm : t % k < (enc l[t / k]).length := by rw [hk];exact Nat.mod_lt _ hpos
 rw [List.getElem?_eq_getElem hm] at hf
 have h3 : (l.flatMap enc)[t]? = some ((l.flatMap enc)[t]'(by rw [hlen];exact ht)) := List.getElem?_eq_getElem _
 rw [h3] at hf
 injection hf with hf
 show _ = (l.flatMap enc)[t]'(by rw [hlen];exact ht)
 rw [hf]
 have e2 : (l.toArray)[t / k]! = l[t / k] := by simp [htk]
 rw [e2]
 exact getElem!_pos (enc l[t / k]) (t % k) hm
def cmpB (x y : BL) : Int := if Op.bytesLess x y = true then -1 else if Op.bytesLess y x = true then 1 else 0
theorem isnan_any (w : World) (a : ByteArray) : Calls Tryz.prog 167 #[.string a] w fun e w' => e = .returned (.bool false) /\ w = w' := by
 go_enter Tryz.func167,Tryz.ntmps167
 go_wp2
 go_ret
 exact ⟨by simp,rfl⟩
theorem bl_irr (x : BL) : Op.bytesLess x x = false := by
 rw [bytesLess_eq]
 simp
theorem compare_any (w : World) (a b : ByteArray) : Calls Tryz.prog 125 #[.string a,.string b] w fun e w' => e = .returned (.int .i64 (cmpB a.toList b.toList)) /\ w = w' := by
 have hn := fun W s => isnan_any W s
 have HN := hZ0 hn;clear hn
 unfold cmpB
 by_cases h1 : Op.bytesLess a.toList b.toList = true
 ·rw [if_pos h1]
  go_enter Tryz.func125,Tryz.ntmps125
  go_wp2_with (go_at_call 167;refine (HN.out _ _).mono ?_;rintro e w' ⟨rfl,rfl⟩)
  go_ret
  exact ⟨rfl,rfl⟩
 ·rw [if_neg h1]
  have h1' : Op.bytesLess a.toList b.toList = false := by simpa using h1
  clear h1
  by_cases h2 : Op.bytesLess b.toList a.toList = true
  ·rw [if_pos h2]
   have hne : (a.toList == b.toList) = false := by
    rw [beq_eq_false_iff_ne]
    intro e
    rw [e,bl_irr] at h2
    cases h2
   go_enter Tryz.func125,Tryz.ntmps125
   go_wp2_with (go_at_call 167;refine (HN.out _ _).mono ?_;rintro e w' ⟨rfl,rfl⟩)
   go_ret
   exact ⟨rfl,rfl⟩
  ·rw [if_neg h2]
   have h2' : Op.bytesLess b.toList a.toList = false := by simpa using h2
   clear h2
   have heq : (a.toList == b.toList) = true := by
    rw [beq_iff_eq]
    by_cases e : a.toList = b.toList
    ·exact e
    ·have := Keys.less_total _ _ h1' e
     rw [h2'] at this
     cases this
   go_enter Tryz.func125,Tryz.ntmps125
   go_wp2_with (go_at_call 167;refine (HN.out _ _).mono ?_;rintro e w' ⟨rfl,rfl⟩)
   go_ret
   exact ⟨rfl,rfl⟩
theorem order_any (w : World) (o p : OpR) : Calls Tryz.prog 83 #[oagg o,oagg p] w fun e w' => e = .returned (.int .i64 (cmpB o.key.toList p.key.toList)) /\ ∃ q os',w' = grow (w.drewN q) os' := by
 obtain ⟨k1,v1,d1⟩ := o
 obtain ⟨k2,v2,d2⟩ := p
 have hc := fun W => compare_any W k1 k2
 dsimp only [oagg]
 generalize cmpB k1.toList k2.toList = r at hc ⊢
 have HC := hZ0 hc;clear hc
 go_enter Tryz.func83,Tryz.ntmps83
 go_wp2_with (go_at_call 125;refine (HC.out _).mono ?_;rintro e w' ⟨rfl,rfl⟩)
 go_ret
 exact ⟨rfl,0,_,by rw [alloc_eq_grow,alloc_eq_grow,grow_grow];rfl⟩
def rowOf (f : BL -> Option OpR) (x : BL) : OpR := ⟨ofL x,((f x).getD o0).val,((f x).getD o0).del⟩
def encF (f : BL -> Option OpR) (x : BL) : List Value := cell (rowOf f x)
theorem lt_cmp (x y : BL) : ltOf cmpB x y = decide (x < y) := by
 unfold ltOf cmpB
 rw [bytesLess_eq,bytesLess_eq]
 by_cases h : x < y
 ·simp [h]
 ·by_cases h2 : y < x <;> simp [h,h2]
theorem swo_cmp : SWO (ltOf cmpB) := by
 have e : ltOf cmpB = fun x y => decide (x < y) := funext fun x => funext fun y => lt_cmp x y
 rw [e]
 refine ⟨fun x => by simp,fun x y z h1 h2 => ?_,fun x y z h1 h2 => ?_⟩
 ·simp only [decide_eq_true_eq] at *
  exact List.lt_trans h1 h2
 ·simp only [decide_eq_false_iff_not,List.not_lt] at *
  exact List.le_trans h2 h1
theorem tot_cmp (x y : BL) (h1 : ltOf cmpB x y = false) (h2 : ltOf cmpB y x = false) : x = y := by
 rw [lt_cmp,decide_eq_false_iff_not,List.not_lt] at h1 h2
 exact List.le_antisymm h2 h1
theorem sort_cmp (l : List BL) : (l.mergeSort fun x y => !(ltOf cmpB) y x) = l.mergeSort leB := by
 congr 1
 funext x y
 rw [lt_cmp]
 unfold leB
 by_cases h : y < x
 ·have : ¬ x <= y := fun e => List.not_lt.2 e h
  simp [h,this]
 ·simp [h,List.not_lt.1 h]
theorem cmp_lays (f : BL -> Option OpR) (blk off size : Nat) (w : World) : CmpLays Tryz.prog 83 #[] (encF f) 3 cmpB blk off size w :=
 fun m os dk _ x y => by
  have h := order_any (sortWorldK (encF f) 3 w blk off m dk os) (rowOf f x) (rowOf f y)
  have e : ∀ z : BL,(ofL z).toList = z := fun z => by rw [ByteArray.toList_eq];simp [ofL]
  have h2 : cmpB (rowOf f x).key.toList (rowOf f y).key.toList = cmpB x y := by unfold rowOf;rw [e,e]
  rw [h2] at h
  exact h
end Nrm
end Go.Proofs.YtgbigpdiacjbgaaGreat

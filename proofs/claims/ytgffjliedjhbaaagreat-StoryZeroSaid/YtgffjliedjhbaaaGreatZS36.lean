/- Part 37 of what the proof needs. -/
import Derived.Test.YtgffjliedjhbaaaGreatZS31
import Derived.Test.YtgffjliedjhbaaaGreatZS33
import Derived.Test.YtgffjliedjhbaaaGreatZS35
import Derived.StillTailTactics
import Derived.Shelf.Abstract
import Derived.Sort.OwnSortedInts
import Derived.Lib.AppendZerosOnto
import Derived.Lib.Walk
import Derived.Maps.OwnSet
import Derived.Maps.Views
set_option linter.unusedSimpArgs false
set_option linter.unusedVariables false
set_option maxHeartbeats 32000000
set_option maxRecDepth 100000
namespace Go.Proofs.YtgffjliedjhbaaaGreat
open Go.RowKit Go.Shelf
set_option maxRecDepth 100000
namespace Plan
def Tells (w : World) (g : Nat) (lb : Array Value) (l : List Mem) (p : Mem -> Bool) : Prop :=
 ∀ W m,Kept NoF w W -> m ∈ l -> Calls Tryz.prog g (#[magg m] ++ lb) W fun e w' => e = .returned (.bool (p m)) /\ Kept NoF W w'
theorem Tells.kept {w w' : World} {g : Nat} {lb : Array Value} {l : List Mem} {p : Mem -> Bool} (h : Tells w g lb l p) (hk : Kept NoF w w') : Tells w' g lb l p := fun W m hW hm => h W m (hk.then hW) hm
def anyP (p : Mem -> Bool) (l : List Mem) : Bool := l.any p
theorem index_any (w : World) (A : Option Addr) (c : Nat) (l : List Mem) (p : Mem -> Bool) (g : Nat) (lb : Array Value) (hl : Src w 2 A l.length (mcells l)) (hlen : l.length <= 1000000)
  (eg : ∀ args w,(callFunc g args).run Tryz.prog w = .ok (.enter g args) w) (hp : Tells w g lb l p) :
  Calls Tryz.prog 192 #[.slice A l.length c,.func (.func g) #[] lb] w fun e w' => (∃ n : Int,e = .returned (.int .i64 n) /\ (0 <= n ↔ anyP p l = true)) /\ Kept NoF w w' := by
 have HL := hZ0 hl;clear hl
 have HP := hZ0 hp;clear hp
 go_enter Tryz.func192,Tryz.ntmps192
 go_wp2_with fail
 go_loopw [8] (fun v8 wr => ∃ i : Nat,i <= l.length /\ v8 = .int .i64 i /\ Kept NoF w wr /\ anyP p l = anyP p (l.drop i)) (fun v8 _ => l.length - (intOf v8).toNat)
 case atStart => exact ⟨0,Nat.zero_le _,rfl,Kept.refl _ _,rfl⟩
 case round =>
  obtain ⟨i,hi,rfl,hk,he⟩ := hrel
  have HK := hZ0 hk;clear hk
  have HE := hZ0 he;clear he
  by_cases hil : i < l.length
  ·obtain ⟨m,hm⟩ : ∃ m,l[i]? = some m := ⟨_,List.getElem?_eq_getElem hil⟩
   obtain ⟨ad,hA,had,d0,d1⟩ := mem_cells (HL.out.kept HK.out (fun _ _ x => x)) (by omega) i m hm
   subst hA
   have hcall := HP.out wr m HK.out (List.mem_of_getElem? hm)
   have hs : anyP p (l.drop i) = (p m || anyP p (l.drop (i + 1))) := by unfold anyP;rw [drop_cons hm,List.any_cons]
   obtain ⟨b,hb⟩ : ∃ b,p m = b := ⟨_,rfl⟩
   rw [hb] at hcall hs
   have HS := hZ0 hs;clear hs hm hb
   obtain ⟨m1,m2⟩ := m
   unfold magg at hcall
   dsimp only at d0 d1 hcall
   have HC := hZ0 hcall;clear hcall
   cases b
   ·go_wp2_with fail
    refine HC.out.mono ?_
    rintro e w2 ⟨rfl,hk2⟩
    have hk3 := HK.out.then hk2
    have HK3 := hZ0 hk3;clear hk3 hk2
    go_wp2
    go_roundw
    case rel => exact ⟨i + 1,by omega,by go_num,HK3.out,by rw [HE.out,HS.out];rfl⟩
    case measure => simp [intOf];omega
   ·go_wp2_with fail
    refine HC.out.mono ?_
    rintro e w2 ⟨rfl,hk2⟩
    have hk3 := HK.out.then hk2
    have HK3 := hZ0 hk3;clear hk3 hk2
    go_wp2
    go_ret
    exact ⟨⟨_,rfl,⟨fun _ => by rw [HE.out,HS.out];rfl,fun _ => by omega⟩⟩,HK3.out⟩
  ·obtain rfl : i = l.length := by omega
   go_wp2
   go_ret
   exact ⟨⟨-1,rfl,⟨fun h => by omega,fun h => by rw [HE.out,List.drop_length] at h;cases h⟩⟩,HK.out⟩
theorem contains_any (w : World) (A : Option Addr) (c : Nat) (l : List Mem) (p : Mem -> Bool) (g : Nat) (lb : Array Value) (hl : Src w 2 A l.length (mcells l)) (hlen : l.length <= 1000000)
  (eg : ∀ args w,(callFunc g args).run Tryz.prog w = .ok (.enter g args) w) (hp : Tells w g lb l p) :
  Calls Tryz.prog 139 #[.slice A l.length c,.func (.func g) #[] lb] w fun e w' => e = .returned (.bool (anyP p l)) /\ Kept NoF w w' := by
 have hi := index_any w A c l p g lb hl hlen eg hp
 have HI := hZ0 hi;clear hi hl hp eg
 obtain ⟨b,hb⟩ : ∃ b,anyP p l = b := ⟨_,rfl⟩
 rw [hb] at HI ⊢
 clear hb
 go_enter Tryz.func139,Tryz.ntmps139
 go_wp2_with fail
 refine HI.out.mono ?_
 rintro e w2 ⟨⟨n,rfl,hn⟩,hk⟩
 have HN := hZ0 hn;clear hn
 go_wp2
 go_ret
 refine ⟨?_,hk⟩
 have h := HN.out
 cases b
 ·have : decide (0 <= n) = false := by rw [decide_eq_false_iff_not];intro x;have := h.1 x;cases this
  rw [<- this];rfl
 ·have : decide (0 <= n) = true := by rw [decide_eq_true_eq];exact h.2 rfl
  rw [<- this];rfl
theorem twin_any (W : World) (B : Nat) (m x : Mem) (hB : Has W B 57 #[.int .i64 m.1,.int .i64 m.2]) :
  Calls Tryz.prog 138 #[magg x,.pointer (some ⟨B,0,none⟩)] W fun e w' => e = .returned (.bool (decide (x.1 = m.1))) /\ Kept NoF W w' := by
 have hlt := hB.lt
 have hne : B ≠ W.heap.size := by omega
 obtain ⟨x1,x2⟩ := x
 obtain ⟨m1,m2⟩ := m
 have c0 : ∀ o,(W.alloc o).cell? ⟨B,0,none⟩ = some (.int .i64 m1) := fun o => (hB.alloc o).cell 0
 clear hB hlt
 unfold magg
 dsimp only
 go_enter Tryz.func138,Tryz.ntmps138
 go_wp2
 go_ret
 exact ⟨by by_cases h : x1 = m1 <;> simp [h],(Kept.refl _ _).alloc _⟩
theorem one_eg : ∀ args w,(callFunc 138 args).run Tryz.prog w = .ok (.enter 138 args) w := enters_of Tryz.func138 (by kernel_rfl) rfl
theorem one_any (w : World) (A : Option Addr) (c : Nat) (l : List Mem) (m : Mem) (hl : Src w 2 A l.length (mcells l)) (hlen : l.length <= 1000000) :
  Calls Tryz.prog 83 #[magg m,.slice A l.length c] w fun e w' => e = .returned (.int .i64 (oneE m l)) /\ Kept NoF w w' := by
 have hone : oneE m l = if m.1 < 0 \/ 4 <= m.1 then 1 else if m.2 < 1 \/ 1073741824 < m.2 then 5 else if anyP (fun x => decide (x.1 = m.1)) l then 18 else 0 := rfl
 have hnb := Has.new w 57 #[.int .i64 m.1,.int .i64 m.2]
 have hco := contains_any (w.alloc (.cells #[.int .i64 m.1,.int .i64 m.2] 57)) A c l (fun x => decide (x.1 = m.1)) 138 #[.pointer (some ⟨w.heap.size,0,none⟩)] (hl.kept ((Kept.refl NoF w).alloc _) (fun _ _ x => x)) hlen one_eg
  (fun W x hW _ => twin_any W w.heap.size m x (hnb.kept hW (fun x => x)))
 obtain ⟨b,hb⟩ : ∃ b,anyP (fun x => decide (x.1 = m.1)) l = b := ⟨_,rfl⟩
 rw [hb] at hco hone
 have HCO := hZ0 hco;clear hco hnb hl hb
 obtain ⟨r,hr⟩ : ∃ r,oneE m l = r := ⟨_,rfl⟩
 rw [hr] at hone ⊢
 clear hr
 obtain ⟨m1,m2⟩ := m
 unfold magg
 dsimp only at hone HCO ⊢
 have HONE := hZ0 hone;clear hone
 by_cases g1 : m1 < 0
 ·have h1 := HONE.out
  rw [if_pos (.inl g1)] at h1
  subst h1
  go_enter Tryz.func83,Tryz.ntmps83
  go_wp2
  go_ret
  exact ⟨rfl,(Kept.refl _ _).alloc _⟩
 by_cases g2 : 4 <= m1
 ·have h1 := HONE.out
  rw [if_pos (.inr g2)] at h1
  subst h1
  go_enter Tryz.func83,Tryz.ntmps83
  go_wp2
  go_ret
  exact ⟨rfl,(Kept.refl _ _).alloc _⟩
 by_cases g3 : m2 < 1
 ·have h1 := HONE.out
  rw [if_neg (by omega),if_pos (.inl g3)] at h1
  subst h1
  go_enter Tryz.func83,Tryz.ntmps83
  go_wp2
  go_ret
  exact ⟨rfl,(Kept.refl _ _).alloc _⟩
 by_cases g4 : 1073741824 < m2
 ·have h1 := HONE.out
  rw [if_neg (by omega),if_pos (.inr g4)] at h1
  subst h1
  go_enter Tryz.func83,Tryz.ntmps83
  go_wp2
  go_ret
  exact ⟨rfl,(Kept.refl _ _).alloc _⟩
 have h1 := HONE.out
 rw [if_neg (by omega),if_neg (by omega)] at h1
 cases b
 ·rw [if_neg (by decide)] at h1
  subst h1
  go_enter Tryz.func83,Tryz.ntmps83
  go_wp2_with fail
  refine HCO.out.mono ?_
  rintro e w2 ⟨rfl,hk⟩
  go_wp2
  go_ret
  exact ⟨rfl,((Kept.refl _ _).alloc _).then hk⟩
 ·rw [if_pos rfl] at h1
  subst h1
  go_enter Tryz.func83,Tryz.ntmps83
  go_wp2_with fail
  refine HCO.out.mono ?_
  rintro e w2 ⟨rfl,hk⟩
  go_wp2
  go_ret
  exact ⟨rfl,((Kept.refl _ _).alloc _).then hk⟩
end Plan
end Go.Proofs.YtgffjliedjhbaaaGreat
namespace Go.Proofs.YtgffjliedjhbaaaGreat
open Go.RowKit Go.Shelf Go.Maps
set_option maxRecDepth 100000
namespace Plan
def I64 (k : Int) : Prop := (Lit.int .i64 k).wf = true
theorem intKeyed : Keyed Tryz.prog 3 := int_keyed Tryz.underlying3
theorem intKey {k : Int} (h : I64 k) : keyOf Tryz.prog 3 (.int .i64 k) = some (.int .i64 k) := keyOf_int_mk Tryz.underlying3 h
def SetIs (w : World) (b n : Nat) (s : Int -> Bool) : Prop :=
 ∃ D : DataW Unit,w.ownsMap Tryz.prog 3 (plainElem Tryz.prog 4) b n D /\ ∀ k,I64 k -> D.atKey (.int .i64 k) (.lit (.bool false)) = .lit (.bool (s k))
theorem SetIs.lt {w : World} {b n : Nat} {s : Int -> Bool} (h : SetIs w b n s) : b < w.heap.size := by
 obtain ⟨D,h,_⟩ := h
 exact h.lt
theorem SetIs.kept {F : Nat -> Prop} {w w' : World} {b n : Nat} {s : Int -> Bool} (h : SetIs w b n s) (hk : Kept F w w') (hf : ¬ F b) : SetIs w' b n s := by
 obtain ⟨D,ho,hD⟩ := h
 have hlt := ho.lt
 obtain ⟨es,clock,hb,hF,hs,e⟩ := ho
 exact ⟨D,⟨es,clock,(hk.block b hlt hf).trans hb,hF,hs,e⟩,hD⟩
theorem SetIs.made (w : World) : SetIs (w.alloc (.map #[] 0)) w.heap.size 0 (fun _ => false) :=
 ⟨_,World.ownsMap_made w _ _ _,fun k hk => rfl⟩
theorem SetIs.ne {w : World} {b n g : Nat} {s : Int -> Bool} {t : TypeId} {cs : Array Value} (h : SetIs w b n s) (hg : Has w g t cs) : b ≠ g := by
 rintro rfl
 obtain ⟨D,⟨es,clock,hb,_⟩,_⟩ := h
 unfold Has at hg
 rw [hg] at hb
 cases hb
end Plan
namespace Plan
def RowOf (v : Value) (k : Nat) : Prop := v.ownBlock = some k
end Plan
end Go.Proofs.YtgffjliedjhbaaaGreat
namespace Go.Proofs.YtgffjliedjhbaaaGreat
open Go.RowKit
set_option maxRecDepth 100000
namespace Lea
open Plan Vn Mst Wat
def IdsPost (w : World) (l : List Mem) (e : Ending) (w' : World) : Prop := ∃ A c,e = .returned (.slice A l.length c) /\ NewSl 3 1 w.heap.size w' A l.length c (ints (ids l)) /\ Kept NoF w w'
theorem ids_any (w : World) (ep fl : Int) (A : Option Addr) (c : Nat) (l : List Mem) (hl : Src w 2 A l.length (mcells l)) (hlen : l.length <= 1000) :
  Calls Tryz.prog 42 #[cagg ep A l.length c fl] w (IdsPost w l) := by
 have HL := hZ0 hl;clear hl
 go_enter Tryz.func42,Tryz.ntmps42
 go_wp2_with fail
 go_loopw [3,9] (fun v3 v9 wr => ∃ (i : Nat) (C : Option Addr) (c' : Nat),i <= l.length /\ v9 = .int .i64 i /\ v3 = .slice C (l.take i).length c' /\ NewSl 3 1 w.heap.size wr C (l.take i).length c' (ints ((l.take i).map (·.1))) /\ Kept NoF w wr) (fun _ v9 _ => l.length - (intOf v9).toNat)
 case atStart => exact ⟨0,none,0,Nat.zero_le _,rfl,rfl,NewSl.nil _ _ _ _,by (repeat' (first | (with_reducible first | exact kR0 | apply kP0 | apply kN0 | apply kD0 | apply kA0) | (right;simp;done)))⟩
 case round =>
  obtain ⟨i,C,c',hi,rfl,rfl,hr,hk⟩ := hrel
  have HR := hZ0 hr;have HK := hZ0 hk;clear hr hk
  by_cases hil : i < l.length
  ·obtain ⟨p,hp⟩ : ∃ p,l[i]? = some p := ⟨_,List.getElem?_eq_getElem hil⟩
   obtain ⟨ad,rfl,hl1,x0,x1⟩ := mem_cells (HL.out.kept HK.out (fun _ _ x => x)) (by omega) i p hp
   have hts : l.take (i + 1) = l.take i ++ [p] := Plan.take_snoc hp
   have hb : (l.take i).length <= 1000 := by rw [List.length_take];omega
   obtain ⟨T,hT⟩ : ∃ T,l.take i = T := ⟨_,rfl⟩
   rw [hT] at hts HR hb ⊢
   have HTS := hZ0 hts
   have HM1 : Hid (T.length + 1 <= maxLen) := hZ0 (by unfold maxLen;omega)
   have HM2 : Hid ((T.length + 1) * 8 <= 140737488355328) := hZ0 (by omega)
   clear hp hts hT hb
   go_wp2_with (at_builtin;refine list_append_src Plan.elemInt (.tmp 13) (.tmp 16) rfl rfl (Value.slice C T.length c') rfl (own_kept HR.out.1 (F := NoF) (by (repeat' (first | (with_reducible first | exact kR0 | apply kP0 | apply kN0 | apply kD0 | apply kA0) | (right;simp;done)))) (fun _ _ x => x)) 1 rfl (Src.of_has (t := 3) (size := 1) (m := 1) (cs := #[.int .i64 p.1]) (by (repeat (first | with_reducible exact Has.new_at _ _ _ (by simp) | with_reducible apply Has.drew | with_reducible apply Has.drewN | with_reducible apply Has.alloc | (with_reducible apply Has.past <;> (try omega)) ))) rfl) (by simp [Value.oneCell']) HM1.out HM2.out ?_;intro A1 c1 w9 ho1 hg1 ha1;have hpush := NewSl.pushed HR.out (by (repeat' (first | (with_reducible first | exact kR0 | apply kP0 | apply kN0 | apply kD0 | apply kA0) | (exact HK.out) | (right;simp;done)))) ho1 hg1 ha1;have HP := hZ0 hpush;clear ho1 hg1 ha1 hpush)
   go_roundw
   case rel => exact ⟨i + 1,A1,c1,by omega,by go_num,by rw [HTS.out,List.length_append];rfl,by rw [HTS.out,List.length_append,List.map_append];simpa [ints] using HP.out.1,HP.out.2⟩
   case measure => simp [intOf];omega
  ·obtain rfl : i = l.length := by omega
   rw [List.take_length] at HR ⊢
   have hcall := sortI_own (w := wr) (B := 0) (A := C) (c := c') (ss := l.map (·.1)) (n := l.length) (by simp) HR.out.1 (by simp;omega)
   have HC := hZ0 hcall;clear hcall
   go_wp2_with fail
   refine HC.out.mono ?_
   rintro e w5 ⟨rfl,ho,hk5⟩
   have hk := HK.out.trans hk5 (fun k hk => .inr (HR.out.2 k hk))
   have HO := hZ0 ho;have HKK := hZ0 hk;clear ho hk hk5
   go_wp2
   go_ret
   exact ⟨C,c',rfl,⟨HO.out,HR.out.2⟩,HKK.out⟩
end Lea
end Go.Proofs.YtgffjliedjhbaaaGreat
namespace Go.Proofs.YtgffjliedjhbaaaGreat
open Go.RowKit Go.Maps
set_option maxRecDepth 100000
namespace IM
open Plan
def IMap (q : IntKind) (e : TypeId) (w : World) (b n : Nat) (f : Int -> Option Int) : Prop :=
 ∃ D : DataW Unit,w.ownsMap Tryz.prog 3 (plainElem Tryz.prog e) b n D /\ ∀ k,I64 k -> has D (.int .i64 k) = (f k).isSome /\ D.atKey (.int .i64 k) (.lit (.int q 0)) = .lit (.int q ((f k).getD 0))
def fput (f : Int -> Option Int) (k : Int) (v : Option Int) : Int -> Option Int := fun x => if x = k then v else f x
section
variable {q : IntKind} {e t : TypeId} {w w' : World} {b n : Nat} {f : Int -> Option Int} {k : Int}
theorem IMap.lt (h : IMap q e w b n f) : b < w.heap.size := by
 obtain ⟨D,h,_⟩ := h
 exact h.lt
theorem IMap.kept {F : Nat -> Prop} (h : IMap q e w b n f) (hk : Kept F w w') (hf : ¬ F b) : IMap q e w' b n f := by
 obtain ⟨D,ho,hD⟩ := h
 have hlt := ho.lt
 obtain ⟨es,clock,hb,hF,hs,e⟩ := ho
 exact ⟨D,⟨es,clock,(hk.block b hlt hf).trans hb,hF,hs,e⟩,hD⟩
theorem IMap.made (q : IntKind) (e : TypeId) (w : World) : IMap q e (w.alloc (.map #[] 0)) w.heap.size 0 (fun _ => none) := ⟨_,World.ownsMap_made w _ _ _,fun k hk => ⟨rfl,rfl⟩⟩
theorem IMap.mono (h : IMap q e w b n f) {m : Nat} (hm : n <= m) : IMap q e w b m f := by
 obtain ⟨D,ho,hD⟩ := h
 exact ⟨D,ho.mono hm,hD⟩
theorem IMap.map (h : IMap q e w b n f) : ∃ es c,w.heap[b]? = some (.map es c) := by
 obtain ⟨D,⟨es,c,hb,_⟩,_⟩ := h
 exact ⟨es,c,hb⟩
theorem IMap.drop (h : IMap q e w b n f) (ht : Tryz.prog.underlying t = some (.map 3 e)) (hk : I64 k) (ty : TypeId) :
  ∃ w',(Builtin.delete_ #[t,3] ty #[.map (some b),.int .i64 k]).run Tryz.prog w = .ok (.tuple #[]) w' /\ IMap q e w' b n (fput f k none) /\ Kept (fun i => i = b) w w' := by
 obtain ⟨D,ho,hD⟩ := h
 obtain ⟨w',hrun,ho',htu⟩ := ho.drop intKeyed ht (intKey hk) ty
 refine ⟨w',hrun,⟨_,ho',?_⟩,(Kept.refl _ _).grownBy htu.grown fun i hi => by injection hi with hi;exact .inl hi.symm⟩
 intro y hy
 by_cases e1 : y = k
 ·subst e1
  rw [has_del_same,atKey_del_same]
  simp [fput]
 ·have hne : (Lit.int .i64 y) ≠ .int .i64 k := fun h => e1 (by injection h)
  rw [has_del_other hne,atKey_del_other hne]
  have := hD y hy
  simpa [fput,e1] using this
theorem run_clear_map {w : World} {b c : Nat} {es : Array MapEntry} {t k e : TypeId} (ht : Tryz.prog.underlying t = some (.map k e)) (hb : w.heap[b]? = some (.map es c)) (ty : TypeId) :
  (Builtin.clear_ #[t] ty #[.map (some b)]).run Tryz.prog w = .ok (.tuple #[]) (ChangeMaps.setBlock w b (.map #[] c)) := by
 simp [Builtin.clear_,run_underlying ht,MapKept.run_getObj_map hb,MapKept.run_setObj_map _ hb,Result.andThen,ChangeMaps.setBlock]
theorem owns_clear {D : DataW Unit} {R : Value -> Option (DataW Unit × List MemPlace)} (h : w.ownsMap Tryz.prog 3 R b n D) (ht : Tryz.prog.underlying t = some (.map 3 e)) (ty : TypeId) :
  ∃ w',(Builtin.clear_ #[t] ty #[.map (some b)]).run Tryz.prog w = .ok (.tuple #[]) w' /\ w'.ownsMap Tryz.prog 3 R b n (.map []) /\ Kept (fun i => i = b) w w' := by
 obtain ⟨es,c,hb,hF,hs,rfl⟩ := h
 refine ⟨_,run_clear_map ht hb ty,⟨#[],c,ChangeMaps.heap_setBlock_same hb _,⟨by simp,MapKept.stamped_empty c,by simp⟩,by simp,rfl⟩,⟨rfl,rfl,rfl,by simp [ChangeMaps.setBlock],fun i _ hi => ChangeMaps.heap_setBlock_other hb _ (fun e => hi e)⟩⟩
theorem IMap.clear (h : IMap q e w b n f) (ht : Tryz.prog.underlying t = some (.map 3 e)) (ty : TypeId) :
  ∃ w',(Builtin.clear_ #[t] ty #[.map (some b)]).run Tryz.prog w = .ok (.tuple #[]) w' /\ IMap q e w' b n (fun _ => none) /\ Kept (fun i => i = b) w w' := by
 obtain ⟨D,ho,hD⟩ := h
 obtain ⟨w',hrun,ho',hk⟩ := owns_clear ho ht ty
 exact ⟨w',hrun,⟨_,ho',fun k hk => ⟨rfl,rfl⟩⟩,hk⟩
end
section
variable {w w' : World} {b n : Nat} {s : Int -> Bool} {k : Int}
theorem SetIs.mono (h : SetIs w b n s) {m : Nat} (hm : n <= m) : SetIs w b m s := by
 obtain ⟨D,ho,hD⟩ := h
 exact ⟨D,ho.mono hm,hD⟩
theorem SetIs.drop (h : SetIs w b n s) (hk : I64 k) (ty : TypeId) :
  ∃ w',(Builtin.delete_ #[178,3] ty #[.map (some b),.int .i64 k]).run Tryz.prog w = .ok (.tuple #[]) w' /\ SetIs w' b n (fun y => !decide (y = k) && s y) /\ Kept (fun i => i = b) w w' := by
 obtain ⟨D,ho,hD⟩ := h
 obtain ⟨w',hrun,ho',htu⟩ := ho.drop intKeyed Tryz.underlying178 (intKey hk) ty
 refine ⟨w',hrun,⟨_,ho',?_⟩,(Kept.refl _ _).grownBy htu.grown fun i hi => by injection hi with hi;exact .inl hi.symm⟩
 intro y hy
 by_cases e1 : y = k
 ·subst e1
  rw [atKey_del_same]
  simp
 ·have hne : (Lit.int .i64 y) ≠ .int .i64 k := fun h => e1 (by injection h)
  rw [atKey_del_other hne,hD y hy]
  simp [e1]
theorem SetIs.clear (h : SetIs w b n s) (ty : TypeId) :
  ∃ w',(Builtin.clear_ #[178] ty #[.map (some b)]).run Tryz.prog w = .ok (.tuple #[]) w' /\ SetIs w' b n (fun _ => false) /\ Kept (fun i => i = b) w w' := by
 obtain ⟨D,ho,hD⟩ := h
 obtain ⟨w',hrun,ho',hk⟩ := owns_clear ho Tryz.underlying178 ty
 exact ⟨w',hrun,⟨_,ho',fun k hk => rfl⟩,hk⟩
theorem SetIs.map (h : SetIs w b n s) : ∃ es c,w.heap[b]? = some (.map es c) := by
 obtain ⟨D,⟨es,c,hb,_⟩,_⟩ := h
 exact ⟨es,c,hb⟩
end
end IM
end Go.Proofs.YtgffjliedjhbaaaGreat

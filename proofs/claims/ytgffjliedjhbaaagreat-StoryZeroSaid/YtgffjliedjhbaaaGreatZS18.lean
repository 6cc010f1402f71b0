/- Part 19 of what the proof needs. -/
import Derived.Test.YtgffjliedjhbaaaGreatZS03
import Derived.Maps.OwnSet
import Derived.Maps.Views
import Derived.WalkKit
import Derived.WalkSpells
import Derived.WalkLawsBesides
import Derived.Lib.Hide
import Derived.BigQuiet
import Derived.Deep.QuietTactic
import Derived.StillTailTactics
import Derived.Deep.DeepFit
import Derived.Deep.RegionHeld3
set_option linter.unusedSimpArgs false
set_option linter.unusedVariables false
set_option maxHeartbeats 32000000
set_option maxRecDepth 100000
namespace Go.Proofs.YtgffjliedjhbaaaGreat
open Go.RowKit Go.Maps
set_option maxRecDepth 100000
namespace Disk
abbrev Safe := Int -> Option ByteArray
def sget (m : Safe) (k : Int) : ByteArray := (m k).getD ⟨#[]⟩
def sput (m : Safe) (k : Int) (s : ByteArray) : Safe := fun i => if i = k then some s else m i
def I64 (k : Int) : Prop := (Lit.int .i64 k).wf = true
theorem intKeyed : Keyed Tryz.prog 3 := int_keyed Tryz.underlying3
theorem intKey {k : Int} (h : I64 k) : keyOf Tryz.prog 3 (.int .i64 k) = some (.int .i64 k) := keyOf_int_mk Tryz.underlying3 h
def MapIs (w : World) (b n : Nat) (m : Safe) : Prop :=
 ∃ D : DataW Unit,w.ownsMap Tryz.prog 3 (plainElem Tryz.prog 9) b n D /\ ∀ k,I64 k -> has D (.int .i64 k) = (m k).isSome /\ D.atKey (.int .i64 k) (.lit (.string [])) = .lit (.string (sget m k).data.toList)
theorem MapIs.lt {w : World} {b n : Nat} {m : Safe} (h : MapIs w b n m) : b < w.heap.size := by
 obtain ⟨D,h,_⟩ := h
 exact h.lt
theorem MapIs.kept {F : Nat -> Prop} {w w' : World} {b n : Nat} {m : Safe} (h : MapIs w b n m) (hk : Kept F w w') (hf : ¬ F b) : MapIs w' b n m := by
 obtain ⟨D,ho,hD⟩ := h
 have hlt := ho.lt
 obtain ⟨es,clock,hb,hF,hs,e⟩ := ho
 exact ⟨D,⟨es,clock,(hk.block b hlt hf).trans hb,hF,hs,e⟩,hD⟩
theorem MapIs.made (w : World) : MapIs (w.alloc (.map #[] 0)) w.heap.size 0 (fun _ => none) :=
 ⟨_,World.ownsMap_made w _ _ _,fun k hk => ⟨rfl,rfl⟩⟩
theorem MapIs.look {w : World} {b n : Nat} {m : Safe} (h : MapIs w b n m) {k : Int} (hk : I64 k) :
  (Instr.lookup 89 (.map (some b)) (.int .i64 k) false).run Tryz.prog w = .ok (.string (sget m k)) w /\ (sget m k).size <= maxLen := by
 obtain ⟨D,ho,hD⟩ := h
 obtain ⟨v,ps,hrun,hv⟩ := ho.lookup intKeyed Tryz.underlying89 (z := .string ⟨#[]⟩) (by rfl) (zd := .lit (.string [])) (zp := []) (plainElem_string Tryz.underlying9 (by decide)) (intKey hk)
 rw [(hD k hk).2] at hv
 unfold plainElem at hv
 rw [Tryz.underlying9] at hv
 rw [hrun]
 cases v <;> simp at hv
 case string s =>
  obtain ⟨h1,h2,_⟩ := hv
  have e : s = sget m k := ByteArray.ext h2
  subst e
  exact ⟨rfl,h1⟩
theorem MapIs.store {w : World} {b n : Nat} {m : Safe} (h : MapIs w b n m) (hn : n < maxLen) {k : Int} (hk : I64 k) (s : ByteArray) (hs : s.size <= maxLen) :
  ∃ w',(Instr.mapUpdate 89 (.map (some b)) (.int .i64 k) (.string s)).run Tryz.prog w = .ok () w' /\ MapIs w' b (n + 1) (sput m k s) /\ Kept (fun i => i = b) w w' := by
 obtain ⟨D,ho,hD⟩ := h
 obtain ⟨w',hrun,ho',hg⟩ := ho.update intKeyed Tryz.underlying89 hn (intKey hk) (plainElem_string Tryz.underlying9 hs)
 refine ⟨w',hrun,⟨_,ho',?_⟩,(Kept.refl _ _).grownBy hg fun i hi => by injection hi with hi;exact .inl hi.symm⟩
 intro i hi
 have hm : IsMap D := ho.isMap
 have hl : WideAt.IsKeyLit (.int .i64 k) := by trivial
 by_cases e : i = k
 ·subst e
  rw [has_put_same hm hl,atKey_put_same hm hl]
  simp [sput,sget]
 ·have hne : (Lit.int .i64 i) ≠ .int .i64 k := fun h => e (by injection h)
  rw [has_put_other hne,atKey_put_other hne]
  have := hD i hi
  simpa [sput,sget,e] using this
end Disk
end Go.Proofs.YtgffjliedjhbaaaGreat
namespace Go.Proofs.YtgffjliedjhbaaaGreat
open Go.RowKit
set_option maxRecDepth 100000
namespace Disk
abbrev Pc := Int × ByteArray
def pcells (ps : List Pc) : List Value := ps.flatMap fun p => [.int .i64 p.1,.string p.2]
theorem pcells_append (a b : List Pc) : pcells (a ++ b) = pcells a ++ pcells b := by simp [pcells]
theorem pcells_at (a : List Pc) (k : Nat) (p : Pc) (h : a[k]? = some p) : (pcells a)[k * 2]? = some (.int .i64 p.1) /\ (pcells a)[k * 2 + 1]? = some (.string p.2) := by
 have hk : ∀ j,j < 2 -> (pcells a)[k * 2 + j]? = ([Value.int .i64 p.1,.string p.2])[j]? := by
  intro j hj
  unfold pcells
  rw [flat_get (fun p : Pc => [Value.int .i64 p.1,.string p.2]) 2 (by decide) (fun _ => rfl),show (k * 2 + j) / 2 = k by omega,show (k * 2 + j) % 2 = j by omega,h]
  rfl
 exact ⟨hk 0 (by decide),hk 1 (by decide)⟩
theorem elemPc : Elem Tryz.prog 90 169 2 24 := by
 obtain ⟨i0,hi,hz0,hz1,hz2⟩ := info_parts (show (Tryz.prog.info? 169).map (fun i => (i.zero,i.size,i.bytes)) = some (some (.agg #[.int .i64 0,.string ⟨#[]⟩]),2,24) by kernel_rfl)
 exact ⟨Tryz.underlying90,⟨i0,_,hi,hz0,hz1,hz2,rfl⟩,by decide⟩
def DiskAt (w : World) (g : Nat) (F : Nat -> Prop) (n : Nat) (m : Safe) (ps : List Pc) (ser boot : Int) : Prop :=
 ∃ mb A c,(∀ k,F k ↔ k = g \/ k = mb \/ (Value.slice A ps.length c).ownBlock = some k) /\ Has w g 92 #[.map (some mb),.slice A ps.length c,.int .i64 ser,.int .i64 boot] /\ MapIs w mb n m /\ w.ownsRow 0 169 2 (.slice A ps.length c) ps.length (pcells ps)
theorem MapIs.ne {w : World} {b n g : Nat} {m : Safe} {t : TypeId} {cs : Array Value} (h : MapIs w b n m) (hg : Has w g t cs) : b ≠ g := by
 rintro rfl
 obtain ⟨D,⟨es,clock,hb,_⟩,_⟩ := h
 unfold Has at hg
 rw [hg] at hb
 cases hb
theorem MapIs.ne_row {w : World} {b n base k s : Nat} {m : Safe} {e : TypeId} {v : Value} {xs : List Value} (h : MapIs w b n m) (hr : w.ownsRow base e s v k xs) : v.ownBlock ≠ some b := by
 obtain ⟨D,⟨es,clock,hb,_⟩,_⟩ := h
 obtain ⟨_,⟨rfl,_⟩ | ⟨g,cap,cur,rfl,_,hg,_⟩⟩ := hr
 ·simp [Value.ownBlock]
 ·intro e
  injection e with e
  simp at e
  subst e
  rw [hg] at hb
  cases hb
theorem DiskAt.kept {F G : Nat -> Prop} {w w' : World} {g n : Nat} {m : Safe} {ps : List Pc} {ser boot : Int} (h : DiskAt w g F n m ps ser boot) (hk : Kept G w w') (hs : Sep F G) : DiskAt w' g F n m ps ser boot := by
 obtain ⟨mb,A,c,hF,hg,hm,ho⟩ := h
 exact ⟨mb,A,c,hF,hg.kept hk (hs _ ((hF _).2 (.inl rfl))),hm.kept hk (hs _ ((hF _).2 (.inr (.inl rfl)))),own_kept ho hk fun k hk' => hs k ((hF k).2 (.inr (.inr hk')))⟩
theorem DiskAt.lt {F : Nat -> Prop} {w : World} {g n : Nat} {m : Safe} {ps : List Pc} {ser boot : Int} (h : DiskAt w g F n m ps ser boot) : ∀ k,F k -> k < w.heap.size := by
 obtain ⟨mb,A,c,hF,hg,hm,ho⟩ := h
 intro k hk
 rcases (hF k).1 hk with rfl | rfl | h
 ·exact hg.lt
 ·exact hm.lt
 ·exact own_lt ho h
def AfterD (w : World) (g : Nat) (F : Nat -> Prop) (v : Value) (n : Nat) (m : Safe) (ps : List Pc) (ser boot : Int) (e : Ending) (w' : World) : Prop :=
 e = .returned v /\ ∃ F',DiskAt w' g F' n m ps ser boot /\ Grows w F F' /\ Kept F w w'
section
variable {F : Nat -> Prop} {w : World} {g n : Nat} {m : Safe} {ps : List Pc} {ser boot : Int}
theorem none_any (h : DiskAt w g F n m ps ser boot) :
  Calls Tryz.prog 37 #[.pointer (some ⟨g,0,none⟩)] w fun e w' => e = .returned (.bool false) /\ w = w' := by
 obtain ⟨mb,A,c,hF,hg,hm,ho⟩ := h
 have c0 : w.cell? ⟨g,0,none⟩ = some (.map (some mb)) := hg.cell 0
 clear hF hg hm ho
 have hnil : ∀ W : World,(binOp .eql 89 (.map (some mb)) (.map none)).run Tryz.prog W = .ok (.bool false) W := fun W => run_eql_map_nil W _ _ _ _ Tryz.underlying89
 go_enter Tryz.func37,Tryz.ntmps37
 go_wp2
 go_ret
 exact ⟨rfl,rfl⟩
theorem serial_any (h : DiskAt w g F n m ps ser boot) :
  Calls Tryz.prog 14 #[.pointer (some ⟨g,0,none⟩)] w fun e w' => e = .returned (.int .i64 ser) /\ w = w' := by
 have hn := none_any h
 obtain ⟨mb,A,c,hF,hg,hm,ho⟩ := h
 have c2 : w.cell? ⟨g,2,none⟩ = some (.int .i64 ser) := hg.cell 2
 have HN := hZ0 hn;clear hn
 clear hF hg hm ho
 go_enter Tryz.func14,Tryz.ntmps14
 go_wp2_with fail
 refine HN.out.mono ?_
 rintro e w' ⟨rfl,rfl⟩
 go_wp2_with fail
 go_ret
 exact ⟨rfl,rfl⟩
theorem boots_any (h : DiskAt w g F n m ps ser boot) :
  Calls Tryz.prog 28 #[.pointer (some ⟨g,0,none⟩)] w fun e w' => e = .returned (.int .i64 boot) /\ w = w' := by
 have hn := none_any h
 obtain ⟨mb,A,c,hF,hg,hm,ho⟩ := h
 have c2 : w.cell? ⟨g,3,none⟩ = some (.int .i64 boot) := hg.cell 3
 have HN := hZ0 hn;clear hn
 clear hF hg hm ho
 go_enter Tryz.func28,Tryz.ntmps28
 go_wp2_with fail
 refine HN.out.mono ?_
 rintro e w' ⟨rfl,rfl⟩
 go_wp2_with fail
 go_ret
 exact ⟨rfl,rfl⟩
end
theorem new_any (w : World) : Calls Tryz.prog 12 #[] w fun e w' => ∃ g F,e = .returned (.pointer (some ⟨g,0,none⟩)) /\ DiskAt w' g F 0 (fun _ => none) [] 1 1 /\ Kept NoF w w' /\ (∀ k,F k -> w.heap.size <= k) := by
 have hmk := @run_makeMap Tryz.prog
 go_enter Tryz.func12,Tryz.ntmps12
 go_wp2
 go_ret
 refine ⟨w.heap.size + 1,fun k => k = w.heap.size + 1 \/ k = w.heap.size \/ (Value.slice none 0 0).ownBlock = some k,?_,⟨w.heap.size,none,0,fun _ => Iff.rfl,?_,?_,?_⟩,?_,?_⟩
 ·rfl
 ·exact Has.new_at _ _ _ (by rw [size_alloc])
 ·exact (MapIs.made w).kept (Kept.refl NoF _ |>.alloc _) (fun x => x)
 ·exact ⟨rfl,.inl ⟨rfl,rfl⟩⟩
 ·exact ((Kept.refl _ _).alloc _).alloc _
 ·rintro k (rfl | rfl | h)
  ·omega
  ·omega
  ·cases h
end Disk
namespace Disk
variable {F : Nat -> Prop} {w : World} {g n : Nat} {m : Safe} {ps : List Pc} {ser boot : Int}
theorem write_ok (h : DiskAt w g F n m ps ser boot) (f : Int) (s : ByteArray) (hf : 1 <= f) (hf2 : f <= 1073741824) (hlen : ps.length <= 100000) :
  Calls Tryz.prog 195 #[.pointer (some ⟨g,0,none⟩),.int .i64 f,.string s] w (AfterD w g F (.int .i64 0) n m (ps ++ [(f,s)]) ser boot) := by
 have hn := none_any h
 have HN := hZ0 hn;clear hn
 obtain ⟨mb,A,c,hF,hg,hm,ho⟩ := h
 have c1 : w.cell? ⟨g,1,none⟩ = some (.slice A ps.length c) := hg.cell 1
 have f1 := hg.frozen 1
 have hgl := hg.lt
 have hne := hm.ne hg
 have hnr := own_ne ho hg (by decide)
 have HG := hZ0 hg;clear hg
 have HM := hZ0 hm;clear hm
 have HO := hZ0 ho;clear ho
 have HF := hZ0 hF;clear hF
 go_enter Tryz.func195,Tryz.ntmps195
 go_wp2_with fail
 refine HN.out.mono ?_
 rintro e w' ⟨rfl,rfl⟩
 have hone : ∀ u ∈ ([.int .i64 f,.string s] : List Value),u.oneCell' = true := by
  intro u hu
  simp at hu
  rcases hu with rfl | rfl <;> rfl
 have hM : ps.length + 1 <= maxLen := by unfold maxLen;omega
 have hY : (ps.length + 1) * 24 <= 140737488355328 := by omega
 have HONE := hZ0 hone;clear hone
 have HMX := hZ0 hM;clear hM
 have HY := hZ0 hY;clear hY
 go_wp2_with (at_builtin;refine list_append_src elemPc (.tmp 21) (.tmp 25) rfl rfl (Value.slice A ps.length c) rfl (own_kept HO.out (F := NoF) ((Kept.refl _ _).alloc _) (fun _ _ x => x)) 1 rfl (Src.of_has (m := 1) (Has.new w 169 #[.int .i64 f,.string s]) rfl) HONE.out HMX.out HY.out ?_;intro A1 c1' w1 ho1 hg1 ha1;have hg1' := (HG.out.alloc (Obj.cells #[.int .i64 f,.string s] 169)).grown hg1 hnr;have d1 := hg1'.cell 1;have k1 := hg1'.frozen 1)
 go_ret
 have hk1 : Kept F w w1 := ((Kept.refl F w).alloc _).grown hg1 (fun k hk => .inl ((HF.out k).2 (.inr (.inr hk))))
 have hkm : Kept (fun k => (Value.slice A ps.length c).ownBlock = some k) w w1 := ((Kept.refl _ w).alloc _).grown hg1 (fun k hk => .inl hk)
 have hne1 : ∀ k,(Value.slice A1 (ps.length + 1) c1').ownBlock = some k -> k ≠ g := fun k hk e => by
  subst e
  exact own_ne ho1 hg1' (by decide) hk
 refine ⟨rfl,fun k => k = g \/ k = mb \/ (Value.slice A1 (ps.length + 1) c1').ownBlock = some k,⟨mb,A1,c1',fun _ => by simp,?_,?_,?_⟩,?_,?_⟩
 ·have := hg1'.put 1 (.slice A1 (ps.length + 1) c1')
  simpa using this
 ·exact (HM.out.kept hkm (HM.out.ne_row HO.out)).kept (F := fun k => k = g) ((Kept.refl _ _).put (.inl rfl)) hne
 ·have := own_kept ho1 (F := fun k => k = g) ((Kept.refl _ _).put (i := 1) (u := .slice A1 (ps.length + 1) c1') (.inl rfl)) hne1
  rw [pcells_append]
  simpa [pcells] using this
 ·rintro k (rfl | rfl | hk)
  ·exact .inl ((HF.out _).2 (.inl rfl))
  ·exact .inl ((HF.out _).2 (.inr (.inl rfl)))
  ·rcases ha1 with e | e
   ·exact .inl ((HF.out _).2 (.inr (.inr (e ▸ hk))))
   ·rw [hk] at e
    injection e with e
    exact .inr (by rw [e];simp)
 ·exact hk1.put (.inl ((HF.out _).2 (.inl rfl)))
end Disk
namespace Disk
variable {F : Nat -> Prop} {w : World} {g n : Nat} {m : Safe} {ps : List Pc} {ser boot : Int}
def total (ps : List Pc) : Nat := (ps.map fun p => p.2.size).sum
theorem total_snoc (ps : List Pc) (p : Pc) : total (ps ++ [p]) = total ps + p.2.size := by simp [total]
theorem total_take (ps : List Pc) (i : Nat) : total (ps.take i) <= total ps := by
 have : ps = ps.take i ++ ps.drop i := (List.take_append_drop i ps).symm
 conv => rhs;rw [this]
 simp only [total,List.map_append,List.sum_append]
 omega
theorem take_snoc {α : Type} {l : List α} {i : Nat} {p : α} (h : l[i]? = some p) : l.take (i + 1) = l.take i ++ [p] := by
 rw [List.take_add_one,h];rfl
theorem pc_cells {w : World} {A : Option Addr} {k : Nat} {ps : List Pc} (h : Src w 2 A k (pcells ps)) (hm : 0 < k) (i : Nat) (p : Pc) (hp : ps[i]? = some p) :
  ∃ ad,A = some ad /\ ad.block < w.heap.size /\ w.cell? (ad.add (i * 2)) = some (.int .i64 p.1) /\ w.cell? ⟨(ad.add (i * 2)).block,(ad.add (i * 2)).off + 1,none⟩ = some (.string p.2) := by
 obtain ⟨ad,rfl,had,hcell⟩ := h.2 hm
 obtain ⟨k0,k1⟩ := pcells_at ps i p hp
 refine ⟨ad,rfl,had,hcell _ _ k0,?_⟩
 rw [<- add_lit _ (by omega),add_add];exact hcell _ _ k1
theorem pending_any (h : DiskAt w g F n m ps ser boot) (hlen : ps.length <= 100000) (hsz : total ps <= 4611686018427387904) :
  Calls Tryz.prog 35 #[.pointer (some ⟨g,0,none⟩)] w fun e w' => e = .returned (.int .i64 (total ps)) /\ Kept NoF w w' := by
 have hn := none_any h
 have HN := hZ0 hn;clear hn
 obtain ⟨mb,A,c,hF,hg,hm,ho⟩ := h
 have c1 : w.cell? ⟨g,1,none⟩ = some (.slice A ps.length c) := hg.cell 1
 have HS := hZ0 (Src.of_own ho)
 clear hF hg hm ho
 go_enter Tryz.func35,Tryz.ntmps35
 go_wp2_with fail
 refine HN.out.mono ?_
 rintro e w' ⟨rfl,rfl⟩
 go_wp2_with fail
 go_loopw [3,5,13] (fun v3 v5 v13 wr => ∃ i : Nat,i <= ps.length /\ v13 = .int .i64 i /\ v3 = .int .i64 (total (ps.take i)) /\ Kept NoF w wr) (fun _ _ v13 _ => ps.length - (intOf v13).toNat)
 case atStart => exact ⟨0,Nat.zero_le _,rfl,by simp [total],Kept.refl _ _⟩
 case round =>
  obtain ⟨i,hi,rfl,rfl,hk⟩ := hrel
  by_cases hil : i < ps.length
  ·obtain ⟨q,hq⟩ : ∃ q,ps[i]? = some q := ⟨_,List.getElem?_eq_getElem hil⟩
   have hkS := HS.out.kept hk (fun _ _ x => x)
   obtain ⟨ad,rfl,hl1,d0,d1⟩ := pc_cells hkS (by omega) i q hq
   have ht := total_take ps (i + 1)
   rw [take_snoc hq,total_snoc] at ht
   have HT := hZ0 (take_snoc hq)
   obtain ⟨q1,q2⟩ := q
   dsimp only at d0 d1 ht
   clear hq hkS
   go_wp2
   go_roundw
   case rel => exact ⟨i + 1,by omega,by go_num,by rw [HT.out,total_snoc];go_num,hk.alloc _⟩
   case measure => simp [intOf];omega
  ·obtain rfl : i = ps.length := by omega
   go_wp2
   go_ret
   exact ⟨by rw [List.take_length];rfl,hk⟩
end Disk
end Go.Proofs.YtgffjliedjhbaaaGreat

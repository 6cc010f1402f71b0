/- Part 20 of what the proof needs. -/
import Derived.Test.YtgffjliedjhbaaaGreatZS03
import Derived.Test.YtgffjliedjhbaaaGreatZS18
import Derived.Lib.SliceRun
import Derived.Shelf.Strings.BuilderK
import Derived.Ground.Names2Prog
set_option linter.unusedSimpArgs false
set_option linter.unusedVariables false
set_option maxHeartbeats 32000000
set_option maxRecDepth 100000
namespace Go.Proofs.YtgffjliedjhbaaaGreat
open Go.RowKit
set_option maxRecDepth 100000
namespace Disk
variable {F : Nat -> Prop} {w : World} {g n : Nat} {m : Safe} {ps : List Pc} {ser boot : Int}
theorem Has.setCells {b : Nat} {t : TypeId} : ∀ (vs : List Value) (o : Nat) (w : World) (cs : Array Value),Has w b t cs -> ∃ cs',Has (w.setCells b o vs) b t cs' /\ cs'.size = cs.size
 | [],_,_,cs,h => ⟨cs,h,rfl⟩
 | v :: r,o,w,cs,h => by
  obtain ⟨cs',h',e⟩ := Has.setCells r (o + 1) _ _ (h.put o v)
  exact ⟨cs',h',by rw [e];simp⟩
theorem Kept.setCells {b : Nat} : ∀ (vs : List Value) (o : Nat) (w : World),Kept (fun k => some b = some k) w (w.setCells b o vs)
 | [],_,w => Kept.refl _ _
 | v :: r,o,w => Kept.then (F := fun k => some b = some k) ((Kept.refl _ w).put (g := b) (i := o) (u := v) (.inl rfl)) (Kept.setCells r (o + 1) _)
theorem clear_row {P : Program} {size : Nat} {v : Value} {n : Nat} {xs : List Value} {t e : TypeId} {z : Value} (h : w.ownsRow 0 e size v n xs) (ht : P.underlying t = some (.slice e))
  (hv : ∀ w,(zeroValue e).run P w = .ok z w) (hz : z.cells.size = size) (h0 : 0 < size) (h1 : ∀ u ∈ z.cells,u.oneCell' = true) :
  ∃ w',(∀ ty,(Builtin.clear_ #[t] ty #[v]).run P w = .ok (.tuple #[]) w') /\ Kept (fun k => v.ownBlock = some k) w w' /\ ∀ A c,v = .slice A n c -> w'.ownsRow 0 e size (.slice A 0 c) 0 [] := by
 rcases h.2 with ⟨rfl,rfl⟩ | ⟨g,cap,cur,rfl,hb,hg,hn,hm,hs,htk⟩
 ·refine ⟨w,fun ty => by simp [Builtin.clear_,run_underlying ht],Kept.refl _ _,?_⟩
  intro A c e
  injection e with e1 e2 e3
  subst e1
  subst e3
  exact ⟨by simp,.inl ⟨rfl,rfl⟩⟩
 ·rcases Nat.eq_zero_or_pos n with rfl | hp
  ·refine ⟨w,fun ty => by simp [Builtin.clear_,run_underlying ht],Kept.refl _ _,?_⟩
   intro A c e
   injection e with e1 e2 e3
   subst e1
   subst e3
   exact ⟨by simp,.inr ⟨g,cap,cur,rfl,hb,hg,hn,hm,hs,by simp⟩⟩
  ·have hlen : (Builtin.zeroCells z.cells n).toList.length = n * size := by simp [Builtin.zeroCells,hz]
   have hle : n * size <= cap * size := Nat.mul_le_mul_right _ hn
   have hH : Has w g e cur := hg
   have hone : ∀ u ∈ (Builtin.zeroCells z.cells n).toList,u.oneCell' = true := by
    intro u hu
    simp only [Builtin.zeroCells,Array.toList_map,List.mem_map] at hu
    obtain ⟨i,_,rfl⟩ := hu
    have hlt : i % z.cells.size < z.cells.size := Nat.mod_lt _ (by omega)
    rw [getElem!_pos z.cells _ hlt]
    exact h1 _ (Array.getElem_mem hlt)
   have hst := run_storeCells_cells (P := P) g 0 (Builtin.zeroCells z.cells n).toList 0 w
    (by intro j hj;rw [hlen] at hj;rw [show 0 + 0 + j = j by omega,hH.cell,Array.getElem?_eq_getElem (by omega)];rfl)
    (by intro j hj;exact hH.frozen _) hone
   obtain ⟨cs',hcs,hsz⟩ := Has.setCells (Builtin.zeroCells z.cells n).toList 0 w cur hH
   refine ⟨_,fun ty => ?_,Kept.setCells (Builtin.zeroCells z.cells n).toList 0 w,?_⟩
   ·obtain ⟨m,rfl⟩ : ∃ m,n = m + 1 := ⟨n - 1,by omega⟩
    simp only [Nat.add_zero] at hst
    simp [Builtin.clear_,run_underlying ht,hv,hst]
   ·intro A c e
    injection e with e1 e2 e3
    subst e1
    subst e3
    exact ⟨by simp,.inr ⟨g,cap,cs',rfl,hb,hcs,Nat.zero_le _,hm,by omega,by simp⟩⟩
theorem forget_any (h : DiskAt w g F n m ps ser boot) :
  Calls Tryz.prog 82 #[.pointer (some ⟨g,0,none⟩)] w fun e w' => e = .returned (.tuple #[]) /\ DiskAt w' g F n m [] ser boot /\ Kept F w w' := by
 obtain ⟨mb,A,c,hF,hg,hm,ho⟩ := h
 obtain ⟨w1,hcl,hk,hrow⟩ := clear_row ho Tryz.underlying90 (z := .agg #[.int .i64 0,.string ⟨#[]⟩]) (by intro w;kernel_rfl) rfl (by decide) (by intro u hu;simp [Value.cells] at hu;rcases hu with rfl | rfl <;> rfl)
 have ho1 := hrow A c rfl
 have hnr := own_ne ho hg (by decide)
 have hg1 : Has w1 g 92 #[.map (some mb),.slice A ps.length c,.int .i64 ser,.int .i64 boot] := hg.kept hk hnr
 have hm1 : MapIs w1 mb n m := hm.kept hk (hm.ne_row ho)
 have hne := hm.ne hg
 have c0 : w.cell? ⟨g,1,none⟩ = some (.slice A ps.length c) := hg.cell 1
 have c1 : w1.cell? ⟨g,1,none⟩ = some (.slice A ps.length c) := hg1.cell 1
 have f1 := hg1.frozen 1
 have hsl : ∀ W : World,(Instr.slice 90 (.slice A ps.length c) none (some (.int .i64 0)) none).run Tryz.prog W = .ok (.slice A 0 c) W := by
  intro W
  cases A <;> simp [go_sem,Tryz.underlying90]
 have hnn : (Value.slice A 0 c).ownBlock = (Value.slice A ps.length c).ownBlock := by cases A <;> rfl
 have HK := hZ0 hk;clear hk
 have HG := hZ0 hg1;clear hg1 hg
 have HM := hZ0 hm1;clear hm1 hm
 have HO := hZ0 ho1;clear ho1 ho hrow
 have HF := hZ0 hF;clear hF
 have HNN := hZ0 hnn;clear hnn
 go_enter Tryz.func82,Tryz.ntmps82
 go_wp2
 go_end0
 refine ⟨rfl,⟨mb,A,c,?_,?_,?_,?_⟩,?_⟩
 ·intro k
  rw [HF.out k,<- HNN.out]
  exact Iff.rfl
 ·((repeat (first | with_reducible exact HG.out | with_reducible apply Has.put_of | with_reducible apply Has.past | with_reducible apply Has.drewN | with_reducible apply Has.drew | with_reducible apply Has.alloc)) <;> first | omega | rfl)
 ·exact HM.out.kept (F := fun k => k = g) (by (repeat' (first | (with_reducible first | exact kR0 | apply kP0 | apply kN0 | apply kD0 | apply kA0) | (exact .inl rfl) | (right;simp;done)))) hne
 ·exact own_kept HO.out (F := fun k => k = g) (by (repeat' (first | (with_reducible first | exact kR0 | apply kP0 | apply kN0 | apply kD0 | apply kA0) | (exact .inl rfl) | (right;simp;done)))) fun k hk e => hnr (HNN.out.symm.trans (hk.trans (by rw [e])))
 ·exact (HK.out.mono fun k hk => (HF.out k).2 (.inr (.inr hk))).put (.inl ((HF.out _).2 (.inl rfl)))
def crashM (m : Safe) (left : Nat) : List Pc -> Safe
 | [] => m
 | p :: ps => if left < p.2.size then (if left = 0 then m else sput m p.1 (sget m p.1 ++ p.2.extract 0 left)) else crashM (sput m p.1 (sget m p.1 ++ p.2)) (left - p.2.size) ps
theorem sget_sput (m : Safe) (k i : Int) (s : ByteArray) : sget (sput m k s) i = if i = k then s else sget m i := by
 unfold sget sput
 split <;> simp_all
theorem sget_le {m : Safe} {Z : Nat} (h : ∀ k,(sget m k).size <= Z) (k : Int) (s : ByteArray) (i : Int) : (sget (sput m k (sget m k ++ s)) i).size <= Z + s.size := by
 rw [sget_sput]
 split
 ·have := h k
  simp
  omega
 ·have := h i
  omega
theorem drop_cons {α : Type} {l : List α} {i : Nat} {p : α} (h : l[i]? = some p) : l.drop i = p :: l.drop (i + 1) := by
 obtain ⟨hi,e⟩ := List.getElem?_eq_some_iff.1 h
 rw [<- e]
 exact List.drop_eq_getElem_cons hi
theorem MapIs.mono {b n' : Nat} (h : MapIs w b n m) (hn : n <= n') : MapIs w b n' m := by
 obtain ⟨D,ho,hD⟩ := h
 exact ⟨D,ho.mono hn,hD⟩
def syncM (m : Safe) : List Pc -> Safe
 | [] => m
 | p :: ps => syncM (sput m p.1 (sget m p.1 ++ p.2)) ps
theorem sync_any (h : DiskAt w g F n m ps ser boot) (hpi : ∀ p ∈ ps,I64 p.1) (hlen : ps.length <= 100000) (hn : n <= 1000000)
  (Z : Nat) (hZ : ∀ k,(sget m k).size <= Z) (hsz : Z + total ps <= 4611686018427387904) :
  Calls Tryz.prog 36 #[.pointer (some ⟨g,0,none⟩)] w fun e w' => e = .returned (.int .i64 (total ps)) /\ DiskAt w' g F (n + ps.length) (syncM m ps) [] ser boot /\ Kept F w w' := by
 have hn := none_any h
 have HN := hZ0 hn;clear hn
 have hpe : ∀ W,Kept NoF w W -> _ := fun W hW => pending_any (h.kept hW (fun _ _ x => x)) hlen (by omega)
 have HPE := hZ0 hpe;clear hpe
 obtain ⟨mb,A,c,hF,hg,hm,ho⟩ := h
 have c0 : w.cell? ⟨g,0,none⟩ = some (.map (some mb)) := hg.cell 0
 have c1 : w.cell? ⟨g,1,none⟩ = some (.slice A ps.length c) := hg.cell 1
 have HG := hZ0 hg;clear hg
 have HM := hZ0 hm;clear hm
 have HO := hZ0 ho;clear ho
 have HF := hZ0 hF;clear hF
 have HPI := hZ0 hpi;clear hpi
 have HZ := hZ0 hZ;clear hZ
 go_enter Tryz.func36,Tryz.ntmps36
 go_wp2_with fail
 refine HN.out.mono ?_
 rintro e w' ⟨rfl,rfl⟩
 go_wp2_with fail
 refine (HPE.out _ (Kept.refl _ _)).mono ?_
 rintro e w0 ⟨rfl,hk0⟩
 have c1 : w0.cell? ⟨g,1,none⟩ = some (.slice A ps.length c) := (HG.out.kept hk0 (fun x => x)).cell 1
 go_wp2_with fail
 go_loopw [5,15] (fun v5 v15 wr => ∃ (i : Nat) (mi : Safe),i <= ps.length /\ v15 = .int .i64 i /\ MapIs wr mb (n + i) mi /\ syncM m ps = syncM mi (ps.drop i) /\ (∀ k,(sget mi k).size <= Z + total (ps.take i)) /\ Kept (fun k => k = mb) w wr) (fun _ v15 _ => ps.length - (intOf v15).toNat)
 case atStart => exact ⟨0,m,Nat.zero_le _,rfl,HM.out.kept hk0 (fun x => x),rfl,by simpa [total] using HZ.out,hk0.mono fun _ x => x.elim⟩
 case round =>
  obtain ⟨i,mi,hi,rfl,hmi,hcr,hzi,hk⟩ := hrel
  have hend : ∀ (W : World) (j : Nat) (mj : Safe),j <= ps.length -> MapIs W mb (n + j) mj -> Kept (fun k => k = mb) wr W -> DiskAt W g F (n + ps.length) mj ps ser boot /\ Kept F w W := by
   intro W j mj hj hmj hkW
   have hkk := hk.then hkW
   refine ⟨⟨mb,A,c,HF.out,HG.out.kept hkk (fun e => HM.out.ne HG.out e.symm),hmj.mono (by omega),own_kept HO.out hkk ?_⟩,hkk.mono fun k e => (HF.out k).2 (.inr (.inl e))⟩
   rintro k hkb rfl
   exact HM.out.ne_row HO.out hkb
  have HEND := hZ0 hend;clear hend
  have hkg := HG.out.kept hk (fun e => HM.out.ne HG.out e.symm)
  have d0 : wr.cell? ⟨g,0,none⟩ = some (.map (some mb)) := hkg.cell 0
  have hgl := hkg.lt
  clear hkg
  by_cases hil : i < ps.length
  ·obtain ⟨q,hq⟩ : ∃ q,ps[i]? = some q := ⟨_,List.getElem?_eq_getElem hil⟩
   have hkS := (Src.of_own HO.out).kept hk (by rintro ad rfl e;exact HM.out.ne_row HO.out (by rw [Value.ownBlock,e]))
   obtain ⟨ad,rfl,hl1,e0,e1⟩ := pc_cells hkS (by omega) i q hq
   clear hkS
   have ht := total_take ps (i + 1)
   rw [take_snoc hq,total_snoc] at ht
   have HT := hZ0 (take_snoc hq)
   rw [drop_cons hq] at hcr
   have hq1 : I64 q.1 := HPI.out q (List.mem_of_getElem? hq)
   have hmw : MapIs (World.drew (wr.alloc (.cells #[.int .i64 q.1,.string q.2] 169))) mb (n + i) mi := hmi.kept ((Kept.refl NoF _).alloc _).drew (fun x => x)
   have hlk := (hmw.look hq1).1
   have hsq := hzi q.1
   obtain ⟨q1,q2⟩ := q
   rw [syncM] at hcr
   dsimp only at e0 e1 hq1 hmw hlk hsq ht hcr
   clear hq
   have HCR := hZ0 hcr;clear hcr
   have HZI := hZ0 hzi;clear hzi
   have HK := hZ0 hk;clear hk
   obtain ⟨w2,hst,hm2,hk2⟩ := hmw.store (by unfold maxLen;omega) hq1 (sget mi q1 ++ q2) (by unfold maxLen;simp;omega)
   have b1 : w2.cell? ⟨wr.heap.size,1,none⟩ = some (.string q2) := (((Has.new wr 169 #[.int .i64 q1,.string q2]).drew).kept hk2 (fun e => by have := hmi.lt;omega)).cell 1
   clear hmw
   have hnl : ¬ 9223372036854775807 < (sget mi q1).size + q2.size := by omega
   go_wp2_with fail
   refine wp_region_still_tail 10 (by kernel_rfl) (by kernel_rfl) ?_
   simp only [List.take_succ_cons,List.take_zero,List.drop_succ_cons,List.drop_zero]
   change wpStill _ _ (World.drew (wr.alloc _)) _ _ _
   repeat still_step
   refine wpStill_nil ?_
   change wpList _ _ _ _ _ (World.drew (wr.alloc _))
   go_wp2_with fail
   have hk2' : Kept (fun k => k = mb) wr w2 := ((Kept.refl _ _).alloc _).drew.then hk2
   have hzi' : ∀ k,(sget (sput mi q1 (sget mi q1 ++ q2)) k).size <= Z + total (ps.take (i + 1)) := by
    intro k
    rw [HT.out,total_snoc,<- Nat.add_assoc]
    exact sget_le HZI.out q1 q2 k
   go_roundw
   case rel => exact ⟨i + 1,_,by omega,by go_num,hm2,HCR.out,hzi',HK.out.then hk2'⟩
   case measure => simp [intOf];omega
  ·obtain rfl : i = ps.length := by omega
   go_wp2_with fail
   obtain ⟨hd1,hk1⟩ := HEND.out wr ps.length _ (Nat.le_refl _) hmi (Kept.refl _ _)
   refine (forget_any hd1).mono ?_
   rintro e w4 ⟨rfl,hd2,hk3⟩
   go_wp2_with fail
   go_ret
   refine ⟨rfl,?_,hk1.then hk3⟩
   have hz := hcr
   rw [List.drop_length,syncM] at hz
   rw [hz]
   exact hd2
end Disk
end Go.Proofs.YtgffjliedjhbaaaGreat
namespace Go.Proofs.YtgffjliedjhbaaaGreat
open Go.Shelf Go.RowKit
set_option maxRecDepth 100000
namespace Bld
def ren : Go.Shelf.Ren := ⟨fun | 166 => 221 | 169 => 209 | 240 => 251 | 276 => 261 | n => n,fun | 0 => 0 | 3 => 3 | 4 => 4 | 5 => 5 | 9 => 9 | 20 => 20 | 37 => 320 | 70 => 329 | 72 => 331 | 75 => 347 | 80 => 335 | 127 => 371 | 164 => 385 | n => n,fun | n => n⟩
theorem lays166 : Go.Proofs.Lays.n166 Tryz.prog ren := {
 mixed := by kernel_rfl
 f166 := Tryz.func221.trans (congrArg some (by kernel_rfl))
 f240 := Tryz.func251.trans (congrArg some (by kernel_rfl))
 f276 := Tryz.func261.trans (congrArg some (by kernel_rfl))
 t0 := Tryz.underlying0
 a0 := Tryz.isAgg0
 z0 := Tryz.sizeOf0
 v0 := Tryz.zeroValue0
 t3 := Tryz.underlying3
 a3 := Tryz.isAgg3
 z3 := Tryz.sizeOf3
 v3 := Tryz.zeroValue3
 t4 := Tryz.underlying4
 a4 := Tryz.isAgg4
 z4 := Tryz.sizeOf4
 v4 := Tryz.zeroValue4
 t9 := Tryz.underlying9
 a9 := Tryz.isAgg9
 z9 := Tryz.sizeOf9
 v9 := Tryz.zeroValue9
 t20 := Tryz.underlying20
 a20 := Tryz.isAgg20
 z20 := Tryz.sizeOf20
 v20 := Tryz.zeroValue20
 t37 := Tryz.underlying320
 a37 := Tryz.isAgg320
 z37 := Tryz.sizeOf320
 v37 := Tryz.zeroValue320
 t70 := Tryz.underlying329
 a70 := Tryz.isAgg329
 z70 := Tryz.sizeOf329
 v70 := Tryz.zeroValue329
 t72 := Tryz.underlying331
 a72 := Tryz.isAgg331
 z72 := Tryz.sizeOf331
 v72 := Tryz.zeroValue331
 t75 := Tryz.underlying347
 a75 := Tryz.isAgg347
 z75 := Tryz.sizeOf347
 v75 := Tryz.zeroValue347
 t164 := Tryz.underlying385
 a164 := Tryz.isAgg385
 z164 := Tryz.sizeOf385
 v164 := Tryz.zeroValue385
}
theorem lays169 : Go.Proofs.Lays.n169 Tryz.prog ren := {
 mixed := by kernel_rfl
 f169 := Tryz.func209.trans (congrArg some (by kernel_rfl))
 t0 := Tryz.underlying0
 a0 := Tryz.isAgg0
 z0 := Tryz.sizeOf0
 v0 := Tryz.zeroValue0
 t3 := Tryz.underlying3
 a3 := Tryz.isAgg3
 z3 := Tryz.sizeOf3
 v3 := Tryz.zeroValue3
 t9 := Tryz.underlying9
 a9 := Tryz.isAgg9
 z9 := Tryz.sizeOf9
 v9 := Tryz.zeroValue9
 t37 := Tryz.underlying320
 a37 := Tryz.isAgg320
 z37 := Tryz.sizeOf320
 v37 := Tryz.zeroValue320
 t70 := Tryz.underlying329
 a70 := Tryz.isAgg329
 z70 := Tryz.sizeOf329
 v70 := Tryz.zeroValue329
 t72 := Tryz.underlying331
 a72 := Tryz.isAgg331
 z72 := Tryz.sizeOf331
 v72 := Tryz.zeroValue331
 t127 := Tryz.underlying371
 a127 := Tryz.isAgg371
 z127 := Tryz.sizeOf371
 v127 := Tryz.zeroValue371
}
theorem extra : Builder.Extra Tryz.prog ren := {
 sizeBuilder := by kernel_rfl
 liesBuilder := by kernel_rfl
 t5 := Tryz.underlying5
 a5 := Tryz.isAgg5
 z5 := Tryz.sizeOf5
 v5 := Tryz.zeroValue5
 infoByte := by kernel_rfl
 cellsByte := by kernel_rfl
 sizeByte := by kernel_rfl
 neB5 := by decide }
theorem write_any (B b : Nat) (bs : List Value) (s : ByteArray) (w : World) (h : Lib.IsBuilderF 331 5 B b bs w) (hlen : bs.length + s.size <= 140737488355328) (hBw : B <= w.heap.size) :
  Calls Tryz.prog 221 #[.pointer (some ⟨b,0,none⟩),.string s] w fun e w' => e = .returned (.tuple #[.int .i64 s.size,.nilIface]) /\ (Lib.BuilderAtF 331 5 B b (.pointer (some ⟨b,0,none⟩)) (bs ++ Lib.strCells s) w' /\ Below B w w' /\ Lib.OthersKept 5 (some b) w w') :=
 Any.Builder_WriteString_k lays166 extra B b bs s w h hlen hBw
theorem string_any (B b : Nat) (l : List UInt8) (w : World) (h : Lib.IsBuilderF 331 5 B b (Lib.byteCells l) w) (hBw : B <= w.heap.size) :
  Calls Tryz.prog 209 #[.pointer (some ⟨b,0,none⟩)] w fun e w' => e = .returned (.string ⟨l.toArray⟩) /\ (Lib.IsBuilderF 331 5 B b (Lib.byteCells l) w' /\ Below B w w' /\ Lib.OthersKept 5 (some b) w w') :=
 Any.Builder_String_any_k lays169 extra B b l w h hBw
end Bld
end Go.Proofs.YtgffjliedjhbaaaGreat
namespace Go.Proofs.YtgffjliedjhbaaaGreat
open Go.RowKit
set_option maxRecDepth 100000
namespace Disk
variable {F : Nat -> Prop} {w : World} {g n : Nat} {m : Safe} {ps : List Pc} {ser boot : Int}
def ofFile (f : Int) (ps : List Pc) : List UInt8 := ps.flatMap fun p => if p.1 = f then p.2.data.toList else []
theorem ofFile_snoc (f : Int) (ps : List Pc) (p : Pc) : ofFile f (ps ++ [p]) = ofFile f ps ++ if p.1 = f then p.2.data.toList else [] := by simp [ofFile]
theorem ofFile_cons (f : Int) (p : Pc) (ps : List Pc) : ofFile f (p :: ps) = (if p.1 = f then p.2.data.toList else []) ++ ofFile f ps := by simp [ofFile]
theorem total_cons (p : Pc) (ps : List Pc) : total (p :: ps) = p.2.size + total ps := by simp [total]
theorem ofFile_len (f : Int) (ps : List Pc) : (ofFile f ps).length <= total ps := by
 induction ps with
 | nil => simp [ofFile]
 | cons p ps ih =>
  rw [ofFile_cons,total_cons,List.length_append]
  split
  ·simp;omega
  ·simp;omega
def dataOf (m : Safe) (ps : List Pc) (f : Int) : ByteArray := ⟨((sget m f).data.toList ++ ofFile f ps).toArray⟩
theorem data_any (h : DiskAt w g F n m ps ser boot) (f : Int) (hf : I64 f) (hlen : ps.length <= 100000) (hsz : (sget m f).size + total ps <= 140737488355328) :
  Calls Tryz.prog 161 #[.pointer (some ⟨g,0,none⟩),.int .i64 f] w fun e w' => e = .returned (.string (dataOf m ps f)) /\ Kept NoF w w' := by
 have hn := none_any h
 have HN := hZ0 hn;clear hn
 obtain ⟨mb,A,c,hF,hg,hm,ho⟩ := h
 have c0 : w.cell? ⟨g,0,none⟩ = some (.map (some mb)) := hg.cell 0
 have c1 : w.cell? ⟨g,1,none⟩ = some (.slice A ps.length c) := hg.cell 1
 have hgl := hg.lt
 have hlk := ((hm.kept ((Kept.refl NoF w).alloc (.cells #[.pointer none,.slice none 0 0] 331)) (fun x => x)).look hf).1
 have HG := hZ0 hg;clear hg
 have HM := hZ0 hm;clear hm
 have HS := hZ0 (Src.of_own ho);clear ho
 have HIB := hZ0 (Lib.IsBuilderF.of (Lib.fresh_isBuilder 331 5 w))
 clear hF
 go_enter Tryz.func161,Tryz.ntmps161
 go_wp2_with fail
 refine HN.out.mono ?_
 rintro e w' ⟨rfl,rfl⟩
 go_wp2_with fail
 refine (Bld.write_any w.heap.size w.heap.size [] (sget m f) _ HIB.out (by simp;omega) (by simp)).mono ?_
 rintro e w1 ⟨rfl,hb1,hk1,-⟩
 have hbl : Below w.heap.size w w1 := ((Below.refl _ _).alloc (Nat.le_refl _) _).trans hk1
 have hkb : Kept NoF w w1 := Kept.of_below hbl (fun k h _ => h)
 have c1' : w1.cell? ⟨g,1,none⟩ = some (.slice A ps.length c) := (HG.out.kept hkb (fun x => x)).cell 1
 have HIB1 : Lib.IsBuilderF 331 5 w.heap.size w.heap.size (Lib.byteCells ((sget m f).data.toList ++ ofFile f (ps.take 0))) w1 := by
  refine .inr ?_
  simpa [ofFile,show Lib.strCells (sget m f) = Lib.byteCells (sget m f).data.toList from rfl] using hb1
 have HIB2 := hZ0 HIB1;clear HIB1 hb1
 go_wp2_with fail
 go_loopw [7,22] (fun v7 v22 wr => ∃ i : Nat,i <= ps.length /\ v22 = .int .i64 i /\ Lib.IsBuilderF 331 5 w.heap.size w.heap.size (Lib.byteCells ((sget m f).data.toList ++ ofFile f (ps.take i))) wr /\ Below w.heap.size w wr) (fun _ v22 _ => ps.length - (intOf v22).toNat)
 case atStart => exact ⟨0,Nat.zero_le _,rfl,HIB2.out,hbl⟩
 case round =>
  obtain ⟨i,hi,rfl,hib,hbw⟩ := hrel
  have HK := hZ0 (Kept.of_below (F := NoF) hbw (fun k h _ => h))
  have HBW := hZ0 hbw;clear hbw
  have hsl := HBW.out.size
  have HIB := hZ0 hib;clear hib
  by_cases hil : i < ps.length
  ·obtain ⟨q,hq⟩ : ∃ q,ps[i]? = some q := ⟨_,List.getElem?_eq_getElem hil⟩
   have hkS := HS.out.kept HK.out (fun _ _ x => x)
   obtain ⟨ad,rfl,hl1,e0,e1⟩ := pc_cells hkS (by omega) i q hq
   clear hkS
   have ht := total_take ps (i + 1)
   rw [take_snoc hq,total_snoc] at ht
   have hol := ofFile_len f (ps.take i)
   have HT := hZ0 (take_snoc hq)
   obtain ⟨q1,q2⟩ := q
   dsimp only at e0 e1 ht
   clear hq
   by_cases hqf : q1 = f
   ·subst hqf
    go_wp2_with fail
    refine (Bld.write_any w.heap.size w.heap.size _ q2 _ (HIB.out.alloc _) (by simp [Lib.byteCells_length];omega) (by simp;omega)).mono ?_
    rintro e w2 ⟨rfl,hb2,hk2,-⟩
    have hb3 : Below w.heap.size w w2 := (HBW.out.alloc hsl _).trans hk2
    have hb4 : Lib.IsBuilderF 331 5 w.heap.size w.heap.size (Lib.byteCells ((sget m q1).data.toList ++ ofFile q1 (ps.take (i + 1)))) w2 := by
     refine .inr ?_
     rw [HT.out,ofFile_snoc]
     simpa [Lib.byteCells,Lib.strCells] using hb2
    go_wp2_with fail
    go_roundw
    case rel => exact ⟨i + 1,by omega,by go_num,hb4,hb3⟩
    case measure => simp [intOf];omega
   ·have hne : (q1 == f) = false := by simpa using hqf
    have hb4 : Lib.byteCells ((sget m f).data.toList ++ ofFile f (ps.take (i + 1))) = Lib.byteCells ((sget m f).data.toList ++ ofFile f (ps.take i)) := by
     rw [HT.out,ofFile_snoc]
     simp [hqf]
    have HB4 := hZ0 hb4;clear hb4
    go_wp2_with fail
    go_roundw
    case rel => exact ⟨i + 1,by omega,by go_num,by rw [HB4.out];exact HIB.out.alloc _,HBW.out.alloc hsl _⟩
    case measure => simp [intOf];omega
  ·obtain rfl : i = ps.length := by omega
   go_wp2_with fail
   refine (Bld.string_any w.heap.size w.heap.size _ _ HIB.out (by omega)).mono ?_
   rintro e w2 ⟨rfl,hb2,hk2,-⟩
   have hb3 := HBW.out.trans hk2
   go_wp2_with fail
   go_ret
   exact ⟨rfl,Kept.of_below hb3 (fun k h _ => h)⟩
end Disk
end Go.Proofs.YtgffjliedjhbaaaGreat

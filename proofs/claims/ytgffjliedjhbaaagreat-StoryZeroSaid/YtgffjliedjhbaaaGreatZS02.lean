/- Part 3 of what the proof needs. -/
import Derived.Test.YtgffjliedjhbaaaGreatZS01
import Derived.Shelf.Strings.BuilderK
import Derived.Laws.Externs
import Derived.Deep.RegionHeld3
import Derived.Below
import Derived.ChangeSame
set_option linter.unusedSimpArgs false
set_option linter.unusedVariables false
set_option maxHeartbeats 32000000
set_option maxRecDepth 100000
namespace Go.Proofs.YtgffjliedjhbaaaGreat
open Go.RowKit Go.Shelf
set_option maxRecDepth 100000
namespace Wire
open Vn Ops
def WrAt (w : World) (g : Nat) (F : Nat -> Prop) (bs : List UInt8) : Prop :=
 ∃ p v,Has w g 333 #[p,v,.int .i64 0,.bool true] /\ (p = .pointer none \/ p = .pointer (some ⟨g,0,none⟩)) /\ w.ownsRowF 0 5 1 v bs.length (Lib.byteCells bs) /\ v.ownBlock ≠ some g /\ (∀ k,F k ↔ k = g \/ v.ownBlock = some k)
theorem WrAt.lt {w : World} {g : Nat} {F : Nat -> Prop} {bs : List UInt8} (h : WrAt w g F bs) : ∀ k,F k -> k < w.heap.size := by
 obtain ⟨p,v,h1,_,h3,_,h5⟩ := h
 intro k hk
 rcases (h5 k).1 hk with rfl | e
 ·exact h1.lt
 ·exact (h3.lt k e).2
theorem WrAt.kept {w w' : World} {g : Nat} {F G : Nat -> Prop} {bs : List UInt8} (h : WrAt w g F bs) (hk : Kept G w w') (hs : Sep F G) : WrAt w' g F bs := by
 obtain ⟨p,v,h1,h2,h3,h4,h5⟩ := h
 refine ⟨p,v,h1.kept hk (hs g ((h5 g).2 (.inl rfl))),h2,⟨h3.1,?_⟩,h4,h5⟩
 rcases h3.2 with hn | ⟨k,cap,cur,fz,rfl,hb,hh,rest⟩
 ·exact .inl hn
 ·exact .inr ⟨k,cap,cur,fz,rfl,hb,(hk.block k (Array.getElem?_eq_some_iff.1 hh).1 (hs k ((h5 k).2 (.inr rfl)))).trans hh,rest⟩
theorem liesW : liesAt Tryz.prog Tryz.prog.depth 333 (4 / Tryz.prog.cellsOf 333) 0 331 1 = true := by kernel_rfl
theorem sizeB : (Tryz.prog.info? 331).map (·.size) = some 2 := by kernel_rfl
theorem Has.shape {w : World} {g : Nat} {t : TypeId} {cs : Array Value} (h : Has w g t cs) : w.shape? g = some (t,cs.size) := by
 unfold Has at h
 simp [World.shape?,h]
theorem check_used (w : World) (b : Nat) (h0 : w.cell? ⟨b,0,none⟩ = some (.pointer (some ⟨b,0,none⟩))) :
  Calls Tryz.prog 251 #[.pointer (some ⟨b,0,none⟩)] w fun e w' => e = .returned (.tuple #[]) /\ w' = w := by
 obtain ⟨j,hj,_⟩ := Option.map_eq_some_iff.1 sizeB
 go_enter Tryz.func251,Tryz.ntmps251
 go_wp2
 rw [Lib.run_neq_ptr_same w _ Tryz.underlying329 hj]
 go_wp2
 go_end0
 exact ⟨rfl,rfl⟩
theorem check_fresh (w : World) (b : Nat) (h0 : w.cell? ⟨b,0,none⟩ = some (.pointer none)) (hsh : w.shape? b = some (333,4)) (hfz : w.frozen? ⟨b,0,none⟩ = false) :
  Calls Tryz.prog 251 #[.pointer (some ⟨b,0,none⟩)] w fun e w' => e = .returned (.tuple #[]) /\ w' = w.setCell ⟨b,0,none⟩ (.pointer (some ⟨b,0,none⟩)) := by
 obtain ⟨j,hj,hjs⟩ := Option.map_eq_some_iff.1 sizeB
 go_enter Tryz.func251,Tryz.ntmps251
 go_wp2
 rw [Lib.run_to_unsafe w ⟨b,0,none⟩ Tryz.underlying329 Tryz.underlying385 hj (by rw [hjs];decide) hsh (show 0 < 4 by decide)]
 simp only [Result.andThen]
 rw [Oper.upon_value]
 go_wp2
 rw [run_callFunc_extern Tryz.func261 (by kernel_rfl) (by kernel_rfl) (by kernel_rfl) (e := Extern.AbiNoEscape.same) (by kernel_rfl)]
 rw [Lib.run_noEscape]
 simp only [Result.andThen]
 rw [Oper.upon_value]
 go_wp2
 rw [Lib.run_from_unsafe w ⟨b,0,none⟩ Tryz.underlying385 Tryz.underlying329 hj hsh liesW]
 simp only [Result.andThen]
 rw [Oper.upon_value]
 go_wp2
 go_end0
 exact ⟨rfl,rfl⟩
theorem WrAt.used {w : World} {g : Nat} {F : Nat -> Prop} {bs : List UInt8} (h : WrAt w g F bs) : ∃ w',(w' = w \/ w' = w.setCell ⟨g,0,none⟩ (.pointer (some ⟨g,0,none⟩))) /\ Kept F w w' /\
  (Calls Tryz.prog 251 #[.pointer (some ⟨g,0,none⟩)] w fun e w2 => e = .returned (.tuple #[]) /\ w2 = w') /\
  ∃ v,Has w' g 333 #[.pointer (some ⟨g,0,none⟩),v,.int .i64 0,.bool true] /\ w'.ownsRowF 0 5 1 v bs.length (Lib.byteCells bs) /\ v.ownBlock ≠ some g /\ (∀ k,F k ↔ k = g \/ v.ownBlock = some k) := by
 obtain ⟨p,v,h1,h2,h3,h4,h5⟩ := h
 rcases h2 with rfl | rfl
 ·refine ⟨_,.inr rfl,(Kept.refl _ _).put (.inl ((h5 g).2 (.inl rfl))),check_fresh w g (h1.cell 0) (Has.shape h1) (h1.frozen 0),v,h1.put 0 _,?_,h4,h5⟩
  exact h3.kept (row := some g) ⟨rfl,rfl,rfl,by simp [World.setCell],fun k _ hk => Below.heap_setCell _ _ _ _ (fun e => hk (by simp [e]))⟩ (.inr h4)
 ·exact ⟨w,.inl rfl,Kept.refl _ _,check_used w g (h1.cell 0),v,h1,h3,h4,h5⟩
theorem strCells_bl (s : ByteArray) : Lib.strCells s = Lib.byteCells (bl s) := by
 simp [Lib.strCells,Lib.byteCells,bl]
theorem byteCells_append (a b : List UInt8) : Lib.byteCells (a ++ b) = Lib.byteCells a ++ Lib.byteCells b := by simp [Lib.byteCells]
theorem run_append_bytes {P : Program} (w : World) (t u ty e : TypeId) (i : TypeInfo) (ht : P.underlying t = some (.slice e)) (hu : P.underlying u = some .string) (hi : P.info? e = some i) (hz : i.zero = some (.int .u8 0))
  (hsize : i.size = 1) (hby : i.bytes = 1) (v : Value) (n : Nat) (xs : List Value) (hown : w.ownsRowF 0 e 1 v n xs) (s : ByteArray) (h63 : n + s.size <= maxLen) (hbytes : n + s.size <= 140737488355328) :
  ∃ v' w',(Builtin.append_ #[t,u] ty #[v,.string s]).run P w = .ok v' w' /\ w'.ownsRowF 0 e 1 v' (n + s.size) (xs ++ Lib.strCells s) /\ w.grownBy w' v.ownBlock /\ (∀ k,v'.ownBlock = some k -> v.ownBlock = some k \/ w.heap.size <= k) := by
 have hown0 := hown
 rcases hown.2 with ⟨rfl,rfl⟩ | ⟨g,cap,cur,fz,rfl,hbg,hg,hfz,hnc,hcm,hcs,htake⟩
 ·obtain ⟨v',w',h1,h2,h3,h4⟩ := Lib.run_append_own_string (P := P) w w.heap.size t u ty e i ht hu hi hz hsize hby (.slice none 0 0) 0 xs ⟨hown.1,.inl ⟨rfl,rfl⟩⟩ s h63 hbytes (Nat.le_refl _)
  obtain ⟨v2,w2,g1,g2,_⟩ := Lib.run_append_own_string (P := P) w 0 t u ty e i ht hu hi hz hsize hby (.slice none 0 0) 0 xs ⟨hown.1,.inl ⟨rfl,rfl⟩⟩ s h63 hbytes (Nat.zero_le _)
  rw [h1] at g1
  injection g1 with e1 e2
  subst e1
  subst e2
  exact ⟨v',w',h1,World.ownsRowF_of g2,h3,fun k hk => .inr ((World.ownsRowF_of h2).lt k hk).1⟩
 ·obtain ⟨v',w',h1,h2,h3,_⟩ := Lib.run_append_own_stringF (P := P) w 0 t u ty e i ht hu hi hz hsize hby _ n xs hown0 s h63 hbytes (Nat.zero_le _)
  refine ⟨v',w',h1,h2,h3,fun k hk => ?_⟩
  have hxl : xs.length = n := by simpa using hown.1
  by_cases hroom : n + s.size <= cap
  ·have hcs' : cur.size = cap := by simpa using hcs
   have hr := Lib.run_append_room_stringF (P := P) w t u ty e i ht hu hi hsize g n cap cur fz hg (by simpa using hfz) s hroom (by omega)
   rw [hr] at h1
   injection h1 with e1 e2
   subst e1
   exact .inl hk
  ·have holds : ∀ j u,xs[j]? = some u -> w.cell? ((⟨g,0,none⟩ : Addr).add j) = some u := hown.cells (g := g) rfl
   have hr := Lib.run_append_grow_string (P := P) w t u ty e i (.int .u8 0) ht hu hi hz ⟨g,0,none⟩ n cap xs (by rw [hsize];simpa using hxl) holds s (by omega) (by simp only [maxLen] at h63;omega) (by rw [hby];exact growslice_fits (by omega) (by omega))
   rw [hr] at h1
   injection h1 with e1 e2
   subst e1
   simp [Value.ownBlock] at hk
   exact .inr (by omega)
theorem list_append_bytes {P : Program} {w : World} {ops : Array Oper} {rest : List Oper} {o : Oper} {a : Act} {Q : Exit -> Act -> World -> Prop} (hgd : o.guard = none) (sl x : Operand) (t u : TypeId)
  (ho : o.op = .call { callee := .builtin .append,args := #[sl,x],argTypes := #[t,u] })
  (e : TypeId) (i : TypeInfo) (ht : P.underlying t = some (.slice e)) (hu : P.underlying u = some .string) (hi : P.info? e = some i) (hz : i.zero = some (.int .u8 0))
  (hsize : i.size = 1) (hby : i.bytes = 1)
  (v : Value) (n : Nat) (xs : List Value) (hs : a.eval sl = v) (hown : w.ownsRowF 0 e 1 v n xs) (s : ByteArray) (hx : a.eval x = .string s)
  (h63 : n + s.size <= maxLen) (hbytes : n + s.size <= 140737488355328)
  (h : ∀ v' w',w'.ownsRowF 0 e 1 v' (n + s.size) (xs ++ Lib.strCells s) -> w.grownBy w' v.ownBlock -> (∀ k,v'.ownBlock = some k -> v.ownBlock = some k \/ w.heap.size <= k) -> wpList P ops Q rest (a.put o.dst v') w') : wpList P ops Q (o :: rest) a w := by
 refine wpList_plain hgd fun K hK => ?_
 obtain ⟨v',w',hr,h2,h3,h4⟩ := run_append_bytes (P := P) w t u o.type e i ht hu hi hz hsize hby v n xs hown s h63 hbytes
 unfold Oper.wp execOp
 simp only [ho,resolve,invoke,builtin,Sem.run_bind,Sem.run_pure,Result.andThen_ok,List.map_toArray,List.map_cons,List.map_nil,hs,hx,hr]
 exact hK _ _ (h v' w' h2 h3 h4)
theorem write_any (w : World) (g : Nat) (F : Nat -> Prop) (bs : List UInt8) (s : ByteArray) (h : WrAt w g F bs) (hlen : bs.length + s.size <= 140737488355328) :
  Calls Tryz.prog 221 #[.pointer (some ⟨g,0,none⟩),.string s] w fun e w' => e = .returned (.tuple #[.int .i64 s.size,.nilIface]) /\ ∃ F',WrAt w' g F' (bs ++ bl s) /\ Grows w F F' /\ Kept F w w' := by
 obtain ⟨i0,hi,hz0,hz1,hz2⟩ := info_parts (show (Tryz.prog.info? 5).map (fun i => (i.zero,i.size,i.bytes)) = some (some (.int .u8 0),1,1) by kernel_rfl)
 obtain ⟨w1,hw1,hk1,hcall,v,hb,hown,hne,hF⟩ := h.used
 have hsz : w1.heap.size = w.heap.size := by rcases hw1 with rfl | rfl <;> simp [World.setCell]
 have HS := hZ0 hsz;clear hsz hw1
 have HK := hZ0 hk1;clear hk1
 have HC := hZ0 hcall;clear hcall
 have HNE := hZ0 hne;clear hne
 have HF := hZ0 hF;clear hF
 clear h
 go_enter Tryz.func221,Tryz.ntmps221
 go_wp2_with fail
 refine HC.out.mono ?_
 rintro e w1 ⟨rfl,rfl⟩
 have c0 := hb.cell 0
 have c1 := hb.cell 1
 simp only [List.getElem?_toArray,List.getElem?_cons_zero,List.getElem?_cons_succ] at c0 c1
 have HB := hZ0 hb;clear hb
 go_wp2_with (at_builtin;refine list_append_bytes rfl _ _ 320 9 rfl 5 i0 Tryz.underlying320 Tryz.underlying9 hi hz0 hz1 hz2 _ _ _ rfl hown s rfl ?c3 ?c4 ?_)
 case c3 => unfold maxLen;omega
 case c4 => omega
 intro v' w2 hown' hgrow hgr
 have hb2 := HB.out.grown hgrow HNE.out
 have d0 : w2.cell? ⟨g,0,none⟩ = some (.pointer (some ⟨g,0,none⟩)) := hb2.cell 0
 have d1 : w2.cell? ⟨g,1,none⟩ = some v := hb2.cell 1
 have f1 : w2.frozen? ⟨g,1,none⟩ = false := hb2.frozen 1
 have HB2 := hZ0 hb2;clear hb2
 have hform : ∃ A n' c,v' = .slice A n' c := by
  rcases hown'.2 with ⟨e,_⟩ | ⟨k,cap,cur,fz,e,_⟩ <;> exact ⟨_,_,_,e⟩
 obtain ⟨A,n',c,rfl⟩ := hform
 have HO := hZ0 hown';clear hown'
 have HG := hZ0 hgrow;clear hgrow
 have HGR := hZ0 hgr;clear hgr
 go_wp2
 go_ret2
 have hgl : g < w.heap.size := by have := HB.out.lt;have := HS.out;omega
 have hne' : (Value.slice A n' c).ownBlock ≠ some g := fun e => by
  rcases HGR.out g e with x | x
  ·exact HNE.out x
  ·have := HS.out;omega
 refine ⟨rfl,fun k => k = g \/ (Value.slice A n' c).ownBlock = some k,⟨_,_,Has.put_of HB2.out rfl,.inr rfl,?_,hne',fun k => Iff.rfl⟩,?_,?_⟩
 ·have h1 := HO.out.kept (w' := w2.setCell ⟨g,1,none⟩ (Value.slice A n' c)) (row := some g) ⟨rfl,rfl,rfl,by simp [World.setCell],fun k _ hk => Below.heap_setCell _ _ _ _ (fun e => hk (by simp [e]))⟩ (.inr hne')
  rw [byteCells_append,<- strCells_bl,List.length_append,size_bl]
  exact h1
 ·intro k hk
  rcases hk with rfl | hk
  ·exact .inl ((HF.out k).2 (.inl rfl))
  ·rcases HGR.out k hk with x | x
   ·exact .inl ((HF.out k).2 (.inr x))
   ·exact .inr (by have := HS.out;omega)
 ·have hk2 : Kept F w w2 := HK.out.grown HG.out (fun k hk => .inl ((HF.out k).2 (.inr hk)))
  exact hk2.put (.inl ((HF.out g).2 (.inl rfl)))
theorem kept_freeze {F : Nat -> Prop} {a b : World} {g n : Nat} (h : Kept F a b) (hp : F g \/ a.heap.size <= g) : Kept F a (b.freeze ⟨g,0,none⟩ n) := by
 unfold World.freeze
 split
 ·exact h
 ·refine ⟨h.os,h.tape,h.output,?_,fun k hk hf => ?_⟩
  ·simpa using h.size
  ·simp only [Array.getElem?_modify]
   rw [if_neg]
   ·exact h.block k hk hf
   ·rintro rfl
    rcases hp with x | x
    ·exact hf x
    ·omega
theorem string_any (w : World) (g : Nat) (F : Nat -> Prop) (bs : List UInt8) (h : WrAt w g F bs) (h0 : bs ≠ []) :
  Calls Tryz.prog 209 #[.pointer (some ⟨g,0,none⟩)] w fun e w' => e = .returned (.string (ofL bs)) /\ Kept F w w' := by
 obtain ⟨p,v,h1,_,hown,hne,hF⟩ := h
 have hl0 : bs.length ≠ 0 := by simpa using h0
 obtain ⟨k,cap,cur,fz,rfl,hbg,hg,hfz,hnc,hcm,hcs,htake⟩ : ∃ k cap cur fz,v = .slice (some ⟨k,0,none⟩) bs.length cap /\ 0 <= k /\ w.heap[k]? = some (.cells cur 5 fz) /\ fz.2 <= bs.length * 1 /\ bs.length <= cap /\ cap <= maxLen /\ cur.size = cap * 1 /\ cur.toList.take (bs.length * 1) = Lib.byteCells bs := by
  rcases hown.2 with ⟨_,hz⟩ | ⟨g,cap,cur,fz,hv,r⟩
  ·exact absurd hz hl0
  ·exact ⟨g,cap,cur,fz,hv,r⟩
 have c1 : w.drew.cell? ⟨g,1,none⟩ = some (.slice (some ⟨k,0,none⟩) bs.length cap) := h1.cell 1
 have hSD : (Builtin.unsafeSliceData_ #[320] 371 #[.slice (some ⟨k,0,none⟩) bs.length cap]).run Tryz.prog w.drew = .ok (.pointer (some ⟨k,0,none⟩)) w.drew :=
  Lib.run_unsafeSliceData_row _ _ _ _ _ _ (by omega)
 have hUS : (Builtin.unsafeString_ #[371,3] 9 #[.pointer (some ⟨k,0,none⟩),.int .i64 bs.length]).run Tryz.prog w.drew = .ok (.string ⟨bs.toArray⟩) (w.drew.freeze ⟨k,0,none⟩ bs.length) := by
  refine Lib.run_unsafeString_row w.drew 371 3 9 5 Tryz.underlying371 (by kernel_rfl) k cur.size (by have hg' : w.drew.heap[k]? = some (.cells cur 5 fz) := hg;simp [World.shape?,hg']) bs h0 (by omega) (by unfold maxLen at hcm;omega) ?_
  intro j x hx
  exact hown.cells (g := k) rfl j (.int .u8 x.toNat) (by simp [Lib.byteCells,hx])
 have hk : Kept F w (w.drew.freeze ⟨k,0,none⟩ bs.length) := kept_freeze (Kept.refl F w).drew (.inl ((hF k).2 (.inr rfl)))
 have HK := hZ0 hk;clear hk
 clear hF hown h1 hg hne htake
 go_enter Tryz.func209,Tryz.ntmps209
 go_wp2
 go_region
 all_goals (go_wp2;go_ret;exact ⟨rfl,HK.out⟩)
theorem WrAt.hasv {w : World} {g : Nat} {F : Nat -> Prop} {bs : List UInt8} (h : WrAt w g F bs) : ∃ p v,Has w g 333 #[p,v,.int .i64 0,.bool true] := by
 obtain ⟨p,v,h1,_⟩ := h
 exact ⟨p,v,h1⟩
theorem done_any (w : World) (g : Nat) (F : Nat -> Prop) (bs : List UInt8) (h : WrAt w g F bs) (h0 : bs ≠ []) :
  Calls Tryz.prog 157 #[.pointer (some ⟨g,0,none⟩)] w fun e w' => e = .returned (.tuple #[.string (ofL bs),.int .i64 0]) /\ Kept F w w' := by
 obtain ⟨p,v,h1⟩ := h.hasv
 have c2 := h1.cell 2
 have c3 := h1.cell 3
 simp only [List.getElem?_toArray,List.getElem?_cons_zero,List.getElem?_cons_succ] at c2 c3
 clear h1
 have H := hZ0 h;clear h
 go_enter Tryz.func157,Tryz.ntmps157
 go_wp2_with fail
 refine (string_any w g F bs H.out h0).mono ?_
 rintro e w2 ⟨rfl,hk⟩
 have HK := hZ0 hk;clear hk
 go_wp2
 go_ret2
 exact ⟨rfl,HK.out⟩
def Wrote (w : World) (g : Nat) (F : Nat -> Prop) (bs : List UInt8) (e : Ending) (w' : World) : Prop := e = .returned (.pointer (some ⟨g,0,none⟩)) /\ ∃ F',WrAt w' g F' bs /\ Grows w F F' /\ Kept F w w'
theorem off_any {v1 : Value} (w : World) (g : Nat) (c2 : w.cell? ⟨g,2,none⟩ = some (.int .i64 0)) (c3 : w.cell? ⟨g,3,none⟩ = some (.bool true)) (c1 : w.cell? ⟨g,1,none⟩ = some v1) :
  Calls Tryz.prog 206 #[.pointer (some ⟨g,0,none⟩)] w fun e w' => e = .returned (.bool false) /\ w = w' := by
 go_enter Tryz.func206,Tryz.ntmps206
 go_wp2
 go_ret
 exact ⟨rfl,rfl⟩
theorem wput_any (w : World) (g : Nat) (F : Nat -> Prop) (bs : List UInt8) (s : ByteArray) (h : WrAt w g F bs) (hlen : bs.length + s.size <= 140737488355328) :
  Calls Tryz.prog 207 #[.pointer (some ⟨g,0,none⟩),.string s] w (Wrote w g F (bs ++ bl s)) := by
 obtain ⟨p,v,h1⟩ := h.hasv
 have hoff := off_any (v1 := v) w g (h1.cell 2) (h1.cell 3) (h1.cell 1)
 have H := hZ0 h;clear h h1
 have HO := hZ0 hoff;clear hoff
 have hw := write_any w g F bs s H.out hlen
 have HW := hZ0 hw;clear hw
 go_enter Tryz.func207,Tryz.ntmps207
 go_wp2_with fail
 refine HO.out.mono ?_
 rintro e w2 ⟨rfl,rfl⟩
 go_wp2_with fail
 refine HW.out.mono ?_
 rintro e w2 ⟨rfl,F',h1,h2,h3⟩
 have HR := hZ0 (And.intro h1 (And.intro h2 h3));clear h1 h2 h3
 go_wp2
 go_ret
 exact ⟨rfl,F',HR.out⟩
theorem Wrote.then {w w1 w2 : World} {g : Nat} {F F1 : Nat -> Prop} {bs : List UInt8} {e : Ending} (hz : w.heap.size <= w1.heap.size) (h1 : Grows w F F1) (h2 : Kept F w w1) (h : Wrote w1 g F1 bs e w2) : Wrote w g F bs e w2 := by
 obtain ⟨he,F2,g1,g2,g3⟩ := h
 exact ⟨he,F2,g1,h1.trans g2 hz,h2.trans g3 fun k hk => h1 k hk⟩
theorem Wrote.quiet {w w1 w2 : World} {g : Nat} {F : Nat -> Prop} {bs : List UInt8} {e : Ending} (h2 : Kept NoF w w1) (h : Wrote w1 g F bs e w2) : Wrote w g F bs e w2 :=
 Wrote.then h2.size (Grows.refl _ _) (h2.mono fun _ x => x.elim) h
theorem ofL_size (l : List UInt8) : (ofL l).size = l.length := by simp [ofL,ByteArray.size]
theorem sep_no (F : Nat -> Prop) : Sep F NoF := fun _ _ x => x
theorem wnum_any (w : World) (g : Nat) (F : Nat -> Prop) (bs : List UInt8) (n : Nat) (hn : n <= 9223372036854775807) (h : WrAt w g F bs) (hlen : bs.length + 9 <= 140737488355328) :
  Calls Tryz.prog 152 #[.pointer (some ⟨g,0,none⟩),.int .i64 n] w (Wrote w g F (bs ++ put n)) := by
 have hp := put_le (n := n) (by omega)
 have hv := vput_any n (by omega)
 have HV := hZ0 hv;clear hv
 have H := hZ0 h;clear h
 have hmx : ∀ W ts t,(Builtin.max_ ts t #[.int .i64 (n : Int),.int .i64 0]).run Tryz.prog W = .ok (.int .i64 n) W := by
  intro W ts t
  rw [run_max_int2]
  split
  ·congr 2;omega
  ·rfl
 go_enter Tryz.func152,Tryz.ntmps152
 go_wp2_with fail
 refine (HV.out _).mono ?_
 rintro e w2 ⟨rfl,hk⟩
 have hp2 := wput_any w2 g F bs (ofL (put n)) (H.out.kept hk (sep_no F)) (by rw [ofL_size];omega)
 rw [bl_ofL] at hp2
 have HP := hZ0 hp2;clear hp2
 have HK := hZ0 hk;clear hk
 go_wp2_with fail
 refine HP.out.mono ?_
 rintro e w3 hw
 have hw2 := Wrote.quiet HK.out hw
 obtain ⟨rfl,hr⟩ := hw
 have HW := hZ0 hw2;clear hw2 hr
 go_wp2
 go_ret
 exact HW.out
theorem wbig_any (w : World) (g : Nat) (F : Nat -> Prop) (bs : List UInt8) (n : Nat) (hn : n < 18446744073709551616) (h : WrAt w g F bs) (hlen : bs.length + 9 <= 140737488355328) :
  Calls Tryz.prog 156 #[.pointer (some ⟨g,0,none⟩),.int .u64 n] w (Wrote w g F (bs ++ put n)) := by
 have hp := put_le (n := n) (by omega)
 have hv := vput_any n (by omega)
 have HV := hZ0 hv;clear hv
 have H := hZ0 h;clear h
 go_enter Tryz.func156,Tryz.ntmps156
 go_wp2_with fail
 refine (HV.out _).mono ?_
 rintro e w2 ⟨rfl,hk⟩
 have hp2 := wput_any w2 g F bs (ofL (put n)) (H.out.kept hk (sep_no F)) (by rw [ofL_size];omega)
 rw [bl_ofL] at hp2
 have HP := hZ0 hp2;clear hp2
 have HK := hZ0 hk;clear hk
 go_wp2_with fail
 refine HP.out.mono ?_
 rintro e w3 hw
 have hw2 := Wrote.quiet HK.out hw
 obtain ⟨rfl,hr⟩ := hw
 have HW := hZ0 hw2;clear hw2 hr
 go_wp2
 go_ret
 exact HW.out
theorem wtext_any (w : World) (g : Nat) (F : Nat -> Prop) (bs : List UInt8) (s : ByteArray) (h : WrAt w g F bs) (hlen : bs.length + 9 + s.size <= 140737488355328) :
  Calls Tryz.prog 154 #[.pointer (some ⟨g,0,none⟩),.string s] w (Wrote w g F (bs ++ putT s)) := by
 have hp := put_le (n := s.size) (by omega)
 have hv := vput_any s.size (by omega)
 have hsz : (s.size : Int) < 18446744073709551616 := by omega
 have HV := hZ0 hv;clear hv
 have H := hZ0 h;clear h
 go_enter Tryz.func154,Tryz.ntmps154
 go_wp2_with fail
 refine (HV.out _).mono ?_
 rintro e w2 ⟨rfl,hk⟩
 have hp2 := wput_any w2 g F bs (ofL (put s.size)) (H.out.kept hk (sep_no F)) (by rw [ofL_size];omega)
 rw [bl_ofL] at hp2
 have HP := hZ0 hp2;clear hp2
 have HK := hZ0 hk;clear hk
 go_wp2_with fail
 refine HP.out.mono ?_
 rintro e w3 ⟨rfl,F3,g1,g2,g3⟩
 have hp3 := wput_any w3 g F3 (bs ++ put s.size) s g1 (by rw [List.length_append];omega)
 have HP3 := hZ0 hp3;clear hp3
 have HG := hZ0 (And.intro g1 (And.intro g2 g3));clear g1 g2 g3
 go_wp2_with fail
 refine HP3.out.mono ?_
 rintro e w4 hw
 have hw2 := Wrote.quiet HK.out (Wrote.then HG.out.2.2.size HG.out.2.1 HG.out.2.2 hw)
 obtain ⟨rfl,hr⟩ := hw
 rw [List.append_assoc] at hw2
 have HW := hZ0 hw2;clear hw2 hr
 go_wp2
 go_ret
 exact HW.out
theorem wflag_any (w : World) (g : Nat) (F : Nat -> Prop) (bs : List UInt8) (b : Bool) (h : WrAt w g F bs) (hlen : bs.length + 1 <= 140737488355328) :
  Calls Tryz.prog 244 #[.pointer (some ⟨g,0,none⟩),.bool b] w (Wrote w g F (bs ++ putF b)) := by
 cases b
 ·have hp2 := wput_any w g F bs ⟨#[0]⟩ h hlen
  have HP := hZ0 hp2;clear hp2 h
  go_enter Tryz.func244,Tryz.ntmps244
  go_wp2_with fail
  refine HP.out.mono ?_
  rintro e w4 hw
  have HW := hZ0 hw
  obtain ⟨rfl,hr⟩ := hw
  clear hr
  go_wp2
  go_ret
  exact HW.out
 ·have hp2 := wput_any w g F bs ⟨#[1]⟩ h hlen
  have HP := hZ0 hp2;clear hp2 h
  go_enter Tryz.func244,Tryz.ntmps244
  go_wp2_with fail
  refine HP.out.mono ?_
  rintro e w4 hw
  have HW := hZ0 hw
  obtain ⟨rfl,hr⟩ := hw
  clear hr
  go_wp2
  go_ret
  exact HW.out
theorem wnew_any (w : World) : Calls Tryz.prog 151 #[] w fun e w' => e = .returned (.pointer (some ⟨w.heap.size,0,none⟩)) /\ WrAt w' w.heap.size (fun k => k = w.heap.size) [] /\ Kept NoF w w' := by
 go_enter Tryz.func151,Tryz.ntmps151
 go_wp2
 go_ret
 refine ⟨rfl,⟨_,_,Has.new _ _ _,.inl rfl,⟨by simp [Lib.byteCells],.inl ⟨rfl,rfl⟩⟩,by simp [Value.ownBlock],fun k => by simp [Value.ownBlock]⟩,(Kept.refl _ _).alloc _⟩
end Wire
end Go.Proofs.YtgffjliedjhbaaaGreat
namespace Go.Proofs.YtgffjliedjhbaaaGreat
open Go.RowKit Go.WideShapes Go.ChangeShapes
theorem post_below {H : Type} {enc : TypeId × Value -> H} {P : Program} {f : Func} {s : ChangeSpec} {apart fresh handsOn again : Bool} {W W' : World}
  {args : Array Value} {v : Value} {ds gs : List (DataW H)} {before pa pv : List MemPlace}
  (hW : DataW.Whole enc P f.params.toList s.vars apart W args.toList ds gs before)
  (hres : ∀ (b : Nat) (sp : Nat -> Bool) (hd : Bool),DataW.TrodAll enc P W' b sp hd f.resultTypes.toList (v.resultList f.resultTypes.size) (s.fn H (ds ++ gs)).results [])
  (hargs : ∀ sp : Nat -> Bool,(∀ p ∈ before,sp p.block = true) -> DataW.TrodAll enc P W' 0 sp true f.params.toList args.toList (s.fn H (ds ++ gs)).args pa)
  (hvars : ∀ sp : Nat -> Bool,(∀ p ∈ before,sp p.block = true) -> DataW.TrodVars enc P W' sp s.vars (s.fn H (ds ++ gs)).vars pv)
  (hsum : before = pa ++ pv) (hb : Below W.heap.size W W')
  (hok : ∀ (j : Nat) (t : TypeId) (r : Value),f.resultTypes[j]? = some t -> (v.resultList f.resultTypes.size)[j]? = some r -> Value.okWide P W' .any 0 t r) :
  s.post enc P f apart fresh handsOn again W args v W' := by
 subst hsum
 have later := hW
 have lt : ∀ p ∈ pa ++ pv,p.block < W.heap.size := fun p hp => hW.lt p hp
 obtain ⟨_,_,_,_,_,hfrozen,hapart⟩ := hW
 have asked : ∀ p ∈ pa ++ pv,(fun b => decide (b < W.heap.size)) p.block = true := fun p hp => decide_eq_true (lt p hp)
 have kept : World.keptBut W W' fun p => p ∈ pa ++ pv /\ p ∈ ([] ++ pa) ++ pv := World.keptBut_mono (fun p hp => ⟨hp,by simpa using hp⟩) (hb.frame (· ∈ pa ++ pv))
 exact ⟨ds,gs,_,[],pa,pv,later,hres _ _ _,hargs _ asked,hvars _ asked,World.keptBut_mono (fun p hp => ⟨hp.1,by simpa using hp.2⟩) kept,fun _ =>
  ⟨hok,_,_,_,⟨[] ++ pa,pv,trodAll_append (hargs _ fun _ _ => rfl) (hres _ _ _),hvars _ fun _ _ => rfl,rfl,
   fun b off hp => by
    have hin : MemPlace.cell b off ∈ pa ++ pv := by simpa using hp
    rw [hb.frozen (lt _ hin)]
    exact hfrozen b off hin,
   fun ha => by simpa using hapart ha⟩,fun p hp _ => by simpa using hp⟩⟩
end Go.Proofs.YtgffjliedjhbaaaGreat

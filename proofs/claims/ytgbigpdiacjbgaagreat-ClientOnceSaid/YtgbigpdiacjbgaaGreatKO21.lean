/- Part 22 of what the proof needs. -/
import Derived.Test.YtgbigpdiacjbgaaGreatKO10
import Derived.Test.YtgbigpdiacjbgaaGreatKO14
import Derived.Test.YtgbigpdiacjbgaaGreatKO18
import Derived.Test.YtgbigpdiacjbgaaGreatKO20
set_option linter.unusedSimpArgs false
set_option linter.unusedVariables false
set_option maxHeartbeats 32000000
set_option maxRecDepth 100000
namespace Go.Proofs.YtgbigpdiacjbgaaGreat
open Go.RowKit
set_option maxRecDepth 100000
namespace Cli
open Plan Ops Ent Msg Vn Go.Proofs.YtgbigpdiacjbgaaGreat.Ask
def askAt (w : World) (a : Addr) : Array Value := ((List.range 7).map fun j => (w.cell? (a.add j)).getD undef).toArray
def AskIn (w : World) (a : Addr) : Prop := ∀ j,j < 7 -> (w.cell? (a.add j)).isSome = true
def loadAsk (a : Addr) : Sem Value := loadVar 25 a
theorem loadVar_ask (a : Addr) : loadVar 25 a = loadAsk a := rfl
theorem run_loadAsk (w : World) (a : Addr) (h : AskIn w a) : (loadAsk a).run Tryz.prog w = .ok (.agg (askAt w a)) w := by
 have hl := run_loadCells (P := Tryz.prog) w a 7 (fun j => (w.cell? (a.add j)).getD undef) (fun j hj => by
  obtain ⟨v,hv⟩ := Option.isSome_iff_exists.1 (h j hj)
  rw [hv];rfl)
 have hi : (Tryz.prog.info? 25).map (·.size) = some 7 := by kernel_rfl
 have hagg : ∀ W,(isAgg 25).run Tryz.prog W = .ok true W := fun W => by
  unfold isAgg
  rw [Sem.run_bind,run_underlying Tryz.underlying25 W]
  rfl
 cases hq : Tryz.prog.info? 25 with
 | none => simp [hq] at hi
 | some i =>
  have hs : i.size = 7 := by simpa [hq] using hi
  unfold loadAsk
  simp [loadVar,Sem.run_bind,hagg,sizeOf,typeInfo,hq,hs,hl,askAt]
theorem askIn_of {w : World} {a : Addr} {cs : List Value} (hn : cs.length = 7) (h : ∀ j u,cs[j]? = some u -> w.cell? (a.add j) = some u) : AskIn w a /\ askAt w a = cs.toArray := by
 refine ⟨fun j hj => ?_,?_⟩
 ·rw [h j _ (List.getElem?_eq_getElem (by omega))];rfl
 ·unfold askAt
  congr 1
  apply List.ext_getElem?
  intro j
  rcases Nat.lt_or_ge j 7 with hj | hj
  ·rw [List.getElem?_map,List.getElem?_range hj,List.getElem?_eq_getElem (by omega : j < cs.length)]
   simp [h j _ (List.getElem?_eq_getElem (by omega : j < cs.length))]
  ·rw [List.getElem?_eq_none (by simpa using hj),List.getElem?_eq_none (by omega)]
theorem askIn_has {w : World} {g : Nat} {cs : List Value} (hn : cs.length = 7) (h : Has w g 25 cs.toArray) : AskIn w ⟨g,0,none⟩ /\ askAt w ⟨g,0,none⟩ = cs.toArray := by
 refine askIn_of hn fun j u hu => ?_
 have e1 : ((⟨g,0,none⟩ : Addr).add j) = ⟨g,j,none⟩ := by unfold Addr.add;split <;> simp_all
 rw [e1,h.cell]
 simpa using hu
structure CStep (w : World) (X : CX) (C : CLR) (w' : World) (X' : CX) (C' : CLR) : Prop where
 at' : ClAt w' X' C'
 cb : X'.cb = X.cb
 g : ∀ k,cfoot X' C' k -> cfoot X C k \/ w.heap.size <= k
 k : Kept (cfoot X C) w w'
section
variable {w w' : World} {X X' : CX} {C C' : CLR}
theorem CStep.refl (h : ClAt w X C) (hk : Kept NoF w w') : CStep w X C w' X C := ⟨h.quiet hk,rfl,fun _ h => .inl h,Kept.up' hk⟩
theorem CStep.trans {w1 w2 : World} {X1 X2 : CX} {C1 C2 : CLR} (h : CStep w X C w1 X1 C1) (k : CStep w1 X1 C1 w2 X2 C2) : CStep w X C w2 X2 C2 :=
 ⟨k.at',k.cb.trans h.cb,fun i hi => by
  rcases k.g i hi with y | y
  ·exact h.g i y
  ·have := h.k.size;exact .inr (by omega),h.k.trans k.k h.g⟩
theorem CStep.quiet {w1 w2 : World} {X1 : CX} {C1 : CLR} (h : CStep w X C w1 X1 C1) (hk : Kept NoF w1 w2) : CStep w X C w2 X1 C1 := h.trans (CStep.refl h.at' hk)
def OutNew (w w' : World) (A : Option Addr) (c : Nat) (L : List OutR) : Prop := NewSl 54 2 w.heap.size w' A L.length c (ocells L)
structure COk (C : CLR) : Prop where
 id : 0 <= C.id /\ C.id < 3
 req : 0 <= C.req /\ C.req <= 1073741824
 ep : 0 <= C.ep /\ C.ep <= 1073741824
 hd : -1 <= C.hd /\ C.hd <= 4
 t : ∀ t,C.t = some t -> TOk t /\ t.bo.length <= 1000 /\ t.r.ps.length <= 1000
 r : C.r.ps.length <= 1000
 tk : 0 <= C.tk /\ C.tk <= 1073741824
def cl0 (id : Int) : CLR := ⟨id,0,0,-1,none,rep0,false,false,0⟩
theorem cnew_any (w : World) (id : Int) : Calls Tryz.prog 15 #[.int .i64 id] w fun e w' =>
  (¬ (0 <= id /\ id < 3) -> e = .returned (.tuple #[.pointer none,.int .i64 1]) /\ Kept NoF w w') /\
  (0 <= id /\ id < 3 -> ∃ X,e = .returned (.tuple #[.pointer (some ⟨X.cb,0,none⟩),.int .i64 0]) /\ ClAt w' X (cl0 id) /\ (∀ k,cfoot X (cl0 id) k -> w.heap.size <= k) /\ Kept NoF w w') := by
 by_cases h0 : 0 <= id
 ·by_cases h1 : id < 3
  ·have hP : (0 <= id /\ id < 3) := ⟨h0,h1⟩
   refine Calls.mono (R := fun e w' => ∃ X,e = .returned (.tuple #[.pointer (some ⟨X.cb,0,none⟩),.int .i64 0]) /\ ClAt w' X (cl0 id) /\ (∀ k,cfoot X (cl0 id) k -> w.heap.size <= k) /\ Kept NoF w w') ?_ (fun e w' h => ⟨fun hn => absurd hP hn,fun _ => h⟩)
   clear hP
   have h2 : ¬ 3 <= id := by omega
   go_enter Tryz.func15,Tryz.ntmps15
   go_wp2
   go_ret2
   refine ⟨⟨w.heap.size,⟨0,0,none,0,none,0,none,0⟩,none,0⟩,rfl,⟨Has.new _ _ _,(fun t e => by cases e),⟨rfl,.inl ⟨rfl,rfl⟩⟩,fun k e => by simp [Value.ownBlock] at e⟩,fun k hk => ?_,by (repeat' (first | (with_reducible first | exact kR0 | apply kP0 | apply kN0 | apply kD0 | apply kA0) | (right;simp;done)))⟩
   rcases hk with rfl | ⟨t,e,-⟩ | e
   ·exact Nat.le_refl _
   ·cases e
   ·simp [Value.ownBlock] at e
  ·have hP : ¬ (0 <= id /\ id < 3) := by omega
   refine Calls.mono (R := fun e w' => e = .returned (.tuple #[.pointer none,.int .i64 1]) /\ Kept NoF w w') ?_ (fun e w' h => ⟨fun _ => h,fun hp => absurd hp hP⟩)
   have h2 : 3 <= id := by omega
   clear hP
   go_enter Tryz.func15,Tryz.ntmps15
   go_wp2
   go_ret2
   exact ⟨rfl,by (repeat' (first | (with_reducible first | exact kR0 | apply kP0 | apply kN0 | apply kD0 | apply kA0) | (right;simp;done)))⟩
 ·have hP : ¬ (0 <= id /\ id < 3) := by omega
  refine Calls.mono (R := fun e w' => e = .returned (.tuple #[.pointer none,.int .i64 1]) /\ Kept NoF w w') ?_ (fun e w' h => ⟨fun _ => h,fun hp => absurd hp hP⟩)
  have h2 : id < 0 := by omega
  clear hP h0
  go_enter Tryz.func15,Tryz.ntmps15
  go_wp2
  go_ret2
  exact ⟨rfl,by (repeat' (first | (with_reducible first | exact kR0 | apply kP0 | apply kN0 | apply kD0 | apply kA0) | (right;simp;done)))⟩
theorem told_any {lb c : Nat} {A : Option Addr} {L : List OutR} (h : BoxAt w lb A c L) : Calls Tryz.prog 54 #[.pointer (some ⟨lb,0,none⟩)] w fun e w' => e = .returned (.slice A L.length c) /\ w = w' := by
 have q : w.cell? ⟨lb,0,none⟩ = some (.slice A L.length c) := h.b.cell 0
 obtain ⟨n,hn⟩ : ∃ n,L.length = n := ⟨_,rfl⟩
 rw [hn] at q ⊢
 clear h
 go_enter Tryz.func54,Tryz.ntmps54
 go_wp2
 go_ret
 exact ⟨rfl,rfl⟩
theorem busy_any (h : ClAt w X C) : Calls Tryz.prog 14 #[.pointer (some ⟨X.cb,0,none⟩)] w fun e w' => e = .returned (.bool C.t.isSome) /\ w = w' := by
 have hn := cnone_any h
 have q : w.cell? ⟨X.cb,4,none⟩ = some (tptr X C) := h.b.cell 4
 obtain ⟨cb,hcb⟩ : ∃ cb,X.cb = cb := ⟨_,rfl⟩
 rw [hcb] at hn q ⊢
 cases ht : C.t with
 | none =>
  rw [tptr_none ht] at q
  have HN := hZ0 hn
  clear hn h hcb ht
  go_enter Tryz.func14,Tryz.ntmps14
  go_wp2_with fail
  refine HN.out.mono ?_
  rintro e w2 ⟨rfl,rfl⟩
  go_wp2
  go_ret
  exact ⟨rfl,rfl⟩
 | some t =>
  rw [tptr_some ht] at q
  have HN := hZ0 hn
  obtain ⟨tb,htb⟩ : ∃ tb,X.px.b = tb := ⟨_,rfl⟩
  rw [htb] at q
  clear hn h hcb ht htb
  go_enter Tryz.func14,Tryz.ntmps14
  go_wp2_with fail
  refine HN.out.mono ?_
  rintro e w2 ⟨rfl,rfl⟩
  go_wp2
  go_ret
  exact ⟨rfl,rfl⟩
theorem req_any (h : ClAt w X C) : Calls Tryz.prog 13 #[.pointer (some ⟨X.cb,0,none⟩)] w fun e w' => e = .returned (.int .i64 C.req) /\ w = w' := by
 have hn := cnone_any h
 have q : w.cell? ⟨X.cb,1,none⟩ = some (.int .i64 C.req) := h.b.cell 1
 obtain ⟨cb,hcb⟩ : ∃ cb,X.cb = cb := ⟨_,rfl⟩
 rw [hcb] at hn q ⊢
 have HN := hZ0 hn
 clear hn h hcb
 go_enter Tryz.func13,Tryz.ntmps13
 go_wp2_with fail
 refine HN.out.mono ?_
 rintro e w2 ⟨rfl,rfl⟩
 go_wp2
 go_ret
 exact ⟨rfl,rfl⟩
def repC (C : CLR) : RepR := if C.has = true then C.r else rep0
def ReplyPost (w : World) (C : CLR) (e : Ending) (w' : World) : Prop :=
 ∃ A c,e = .returned (.tuple #[ragg (repC C) A c,.bool C.has]) /\ NewSl 84 2 w.heap.size w' A (repC C).ps.length c (pcells (repC C).ps) /\ Kept NoF w w'
theorem reply_any (h : ClAt w X C) (hl : C.r.ps.length <= 1000) : Calls Tryz.prog 9 #[.pointer (some ⟨X.cb,0,none⟩)] w (ReplyPost w C) := by
 obtain ⟨W0,hW0⟩ : ∃ W0,w.alloc (.cells #[.int .i64 0,.int .i64 0,.int .u64 0,.int .i64 0,.slice none 0 0] 36) = W0 := ⟨_,rfl⟩
 have hk0 : Kept NoF w W0 := by rw [<- hW0];(repeat' (first | (with_reducible first | exact kR0 | apply kP0 | apply kN0 | apply kD0 | apply kA0) | (right;simp;done)))
 have hn0 : Has W0 w.heap.size 36 #[.int .i64 0,.int .i64 0,.int .u64 0,.int .i64 0,.slice none 0 0] := by rw [<- hW0];exact Has.new _ _ _
 have hnone := cnone_any (h.quiet hk0)
 have hb := h.b.kept hk0 (fun z => z)
 have hcl := fun W (hW : Kept NoF W0 W) => clonePr_any W X.rA X.rc C.r.ps (Src.of_own (own_kept h.r (hk0.then hW) (fun _ _ z => z))) (by omega)
 unfold ccells at hb
 obtain ⟨bb,hbb⟩ : ∃ bb,X.cb = bb := ⟨_,rfl⟩
 rw [hbb] at hnone hb ⊢
 obtain ⟨rb,hrb⟩ : ∃ rb,w.heap.size = rb := ⟨_,rfl⟩
 rw [hrb] at hn0
 have b3 : W0.cell? ⟨bb,10,none⟩ = some (.bool C.has) := hb.cell 10
 have b4 : W0.cell? ⟨bb,5,none⟩ = some (.int .i64 C.r.req) := hb.cell 5
 have b5 : W0.cell? ⟨bb,6,none⟩ = some (.int .i64 C.r.e) := hb.cell 6
 have b6 : W0.cell? ⟨bb,7,none⟩ = some (.int .u64 C.r.at') := hb.cell 7
 have b7 : W0.cell? ⟨bb,8,none⟩ = some (.int .i64 C.r.pin) := hb.cell 8
 have b8 : W0.cell? ⟨bb,9,none⟩ = some (.slice X.rA C.r.ps.length X.rc) := hb.cell 9
 have HN := hZ0 hnone;have HCL := hZ0 hcl;have HK0 := hZ0 hk0;have HN0 := hZ0 hn0
 clear hnone hcl hk0 hn0 h hb hl
 cases hdn : C.has with
 | false =>
  have hrep : repC C = rep0 := by unfold repC;rw [hdn];rfl
  have HREP := hZ0 hrep;have HDN := hZ0 hdn;clear hrep
  rw [hdn] at b3
  clear hdn b4 b5 b6 b7 b8
  go_enter Tryz.func9,Tryz.ntmps9
  go_wp2_with fail
  refine HN.out.mono ?_
  rintro e w1 ⟨rfl,rfl⟩
  have f0 := HN0.out.frozen 0;have f1 := HN0.out.frozen 1;have f2 := HN0.out.frozen 2;have f3 := HN0.out.frozen 3;have f4 := HN0.out.frozen 4
  have y0 := HN0.out.cell 0;have y1 := HN0.out.cell 1;have y2 := HN0.out.cell 2;have y3 := HN0.out.cell 3;have y4 := HN0.out.cell 4
  simp at y0 y1 y2 y3 y4
  go_wp2
  refine bodyPost_ret (results_row_tmp rfl _ _ rb _ rfl (load_rep (r := rep0) (A := none) (c := 0) (by ((repeat (first | with_reducible exact HN0.out | with_reducible apply Has.put_of | with_reducible apply Has.past | with_reducible apply Has.drewN | with_reducible apply Has.drew | with_reducible apply Has.alloc)) <;> first | omega | rfl)))) rfl ?_
  refine ⟨none,0,?_,?_,?_⟩
  ·rw [HREP.out,HDN.out];rfl
  ·rw [HREP.out];exact ⟨⟨rfl,.inl ⟨rfl,rfl⟩⟩,fun k hk => by cases hk⟩
  ·(repeat' (first | (with_reducible first | exact kR0 | apply kP0 | apply kN0 | apply kD0 | apply kA0) | (first | exact HK0.out | (right;omega)) | (right;simp;done)))
 | true =>
  have hrep : repC C = C.r := by unfold repC;rw [hdn];rfl
  have HREP := hZ0 hrep;have HDN := hZ0 hdn;clear hrep
  rw [hdn] at b3
  clear hdn
  obtain ⟨n,hn⟩ : ∃ n,C.r.ps.length = n := ⟨_,rfl⟩
  rw [hn] at b8
  simp only [hn] at HCL
  have HNN := hZ0 hn;clear hn
  go_enter Tryz.func9,Tryz.ntmps9
  go_wp2_with fail
  refine HN.out.mono ?_
  rintro e w1 ⟨rfl,rfl⟩
  obtain ⟨W1,hW1⟩ : ∃ W1,W0.alloc (.cells #[.int .i64 C.r.req,.int .i64 C.r.e,.int .u64 C.r.at',.int .i64 C.r.pin,.slice X.rA n X.rc] 36) = W1 := ⟨_,rfl⟩
  have hk1 : Kept NoF W0 W1 := by rw [<- hW1];(repeat' (first | (with_reducible first | exact kR0 | apply kP0 | apply kN0 | apply kD0 | apply kA0) | (right;simp;done)))
  have hn1 : Has W1 W0.heap.size 36 #[.int .i64 C.r.req,.int .i64 C.r.e,.int .u64 C.r.at',.int .i64 C.r.pin,.slice X.rA n X.rc] := by rw [<- hW1];exact Has.new _ _ _
  have HN1 := hZ0 hn1;have HK1 := hZ0 hk1
  have hcl1 := HCL.out W1 hk1
  have HCL1 := hZ0 hcl1
  have zz : W1.cell? ⟨W0.heap.size,4,none⟩ = some (.slice X.rA n X.rc) := hn1.cell 4
  clear hk1 hn1 hcl1
  go_wp2_with fail
  clear hW1 zz
  refine HCL1.out.mono ?_
  rintro e w3 ⟨A,c,rfl,hnp,hk3⟩
  have h1 := HN1.out.kept hk3 (fun z => z)
  have h0 := HN0.out.kept (HK1.out.then hk3) (fun z => z)
  have hne : W0.heap.size ≠ rb := fun e => by have := HN0.out.lt;omega
  obtain ⟨ab,hab⟩ : ∃ ab,W0.heap.size = ab := ⟨_,rfl⟩
  rw [hab] at h1 hne ⊢
  have y0 := h1.cell 0;have y1 := h1.cell 1;have y2 := h1.cell 2;have y3 := h1.cell 3;have y4 := h1.cell 4
  have f4' := h1.frozen 4
  have f0 := h0.frozen 0;have f1 := h0.frozen 1;have f2 := h0.frozen 2;have f3 := h0.frozen 3;have f4 := h0.frozen 4
  have z0 := h0.cell 0;have z1 := h0.cell 1;have z2 := h0.cell 2;have z3 := h0.cell 3;have z4 := h0.cell 4
  simp at y0 y1 y2 y3 y4 z0 z1 z2 z3 z4
  have H0 := hZ0 h0;have HNP := hZ0 hnp;have HK3 := hZ0 (HK0.out.then (HK1.out.then hk3));have HNE := hZ0 hne;have HNB := hZ0 (show w.heap.size <= ab by have := HK0.out.size;omega)
  have HLT := hZ0 h1.lt;have HAB := hZ0 h1
  have HS := hZ0 (HK1.out.then hk3).size
  clear h1 h0 hnp hk3 hab
  go_wp2
  refine bodyPost_ret (results_row_tmp rfl _ _ rb _ rfl (load_rep (r := C.r) (A := A) (c := c) (by ((repeat (first | with_reducible exact H0.out | with_reducible apply Has.put_of | with_reducible apply Has.past | with_reducible apply Has.drewN | with_reducible apply Has.drew | with_reducible apply Has.alloc)) <;> first | omega | rfl)))) rfl ?_
  refine ⟨A,c,?_,?_,?_⟩
  ·rw [HREP.out,HDN.out];rfl
  ·rw [HREP.out]
   have hkf : Kept (fun k => k = ab \/ k = rb) w3 ((((((w3.setCell ⟨ab,4,none⟩ (.slice A C.r.ps.length c)).setCell ⟨rb,0,none⟩ (.int .i64 C.r.req)).setCell ⟨rb,1,none⟩ (.int .i64 C.r.e)).setCell ⟨rb,2,none⟩ (.int .u64 C.r.at')).setCell ⟨rb,3,none⟩ (.int .i64 C.r.pin)).setCell ⟨rb,4,none⟩ (.slice A C.r.ps.length c)) := by (repeat' (first | (with_reducible first | exact kR0 | apply kP0 | apply kN0 | apply kD0 | apply kA0) | (first | exact .inl (.inl rfl) | exact .inl (.inr rfl)) | (right;simp;done)))
   refine ⟨own_kept HNP.out.1 hkf (fun k hk e => ?_),fun k hk => ?_⟩
   ·rcases e with e | e
    ·exact own_ne HNP.out.1 HAB.out (by decide) (e ▸ hk)
    ·exact own_ne HNP.out.1 H0.out (by decide) (e ▸ hk)
   ·have := HNP.out.2 k hk;have := HK1.out.size;have := HK0.out.size;omega
  ·(repeat' (first | (with_reducible first | exact kR0 | apply kP0 | apply kN0 | apply kD0 | apply kA0) | (first | exact HK3.out | exact .inr HNB.out | exact .inr (by omega)) | (right;simp;done)))
end
end Cli
namespace Ask
open Plan Ops Ent Msg MO Vn
theorem TOk.new {cl rq : Int} {a : AskR} (hn : I64 a.n) (h : newE cl rq a = 0) : TOk (newT cl rq a) := by
 have hm : mayB cl rq (boOf a) a = true := by
  unfold newE at h
  split at h
  ·cases h
  split at h
  ·cases h
  split at h
  ·assumption
  ·cases h
 refine ⟨hn,⟨by show (0 : Nat) <= 32;decide,fun hk => ?_⟩,by show (0 : Int) <= 0 /\ (0 : Int) <= 1073741824;decide,?_,fun hk => ?_,fun _ => rfl⟩
 ·have hk' : a.k = 2 := hk
  unfold mayB at hm
  rw [if_neg (by omega),if_neg (by omega),if_pos hk'] at hm
  simp only [Bool.and_eq_true,decide_eq_true_eq] at hm
  show ((0 : Nat) : Int) <= a.n
  omega
 ·show phOf a <= 2
  unfold phOf
  split
  ·omega
  ·split <;> omega
 ·have hk' : a.k = 2 := hk
  unfold mayB at hm
  rw [if_neg (by omega),if_neg (by omega),if_pos hk'] at hm
  simp only [Bool.and_eq_true,decide_eq_true_eq] at hm
  exact ⟨hm.2.2.2.1,hm.2.2.2.2⟩
theorem TOk.end {t : TS} (h : TOk t) (r : RepR) : TOk (endT t r) := ⟨h.n,h.ps,h.wt,h.ph,h.n1,h.np⟩
theorem TOk.page {t : TS} (h : TOk t) (hk : t.a.k = 2) (x : MsgR) : TOk (pageT t x).1 := by
 obtain ⟨_,h2,_,h4⟩ := pageL_len h hk x
 have h5 := h.n1 hk
 have hl : (t.ps ++ pageL t x).length = t.ps.length + (pageL t x).length := List.length_append
 unfold pageT
 split
 ·exact ⟨h.n,⟨by show (t.ps ++ pageL t x).length <= 32;rw [hl];omega,fun _ => by show ((t.ps ++ pageL t x).length : Int) <= t.a.n;rw [hl];exact h4⟩,by show (0 : Int) <= 0 /\ (0 : Int) <= 1073741824;decide,h.ph,h.n1,fun e => absurd hk e⟩
 ·exact ⟨h.n,⟨by show (t.ps ++ pageL t x).length <= 32;rw [hl];omega,fun _ => by show ((t.ps ++ pageL t x).length : Int) <= t.a.n;rw [hl];exact h4⟩,by show (0 : Int) <= 0 /\ (0 : Int) <= 1073741824;decide,h.ph,h.n1,fun e => absurd hk e⟩
theorem TOk.take {t : TS} (h : TOk t) (f : Int) (x : MsgR) : TOk (takeT t f x).1 := by
 unfold takeT
 split
 ·exact h
 split
 ·unfold takeW
  split
  ·exact h.end _
  split
  ·exact h
  split
  ·exact h.end _
  ·exact ⟨h.n,⟨by show (0 : Nat) <= 32;decide,fun hk => by have := h.n1 hk;show ((0 : Nat) : Int) <= t.a.n;omega⟩,by show (0 : Int) <= 0 /\ (0 : Int) <= 1073741824;decide,by show 1 <= 2;decide,h.n1,fun _ => rfl⟩
 split
 ·unfold takeR
  split
  ·exact h.end _
  split
  ·exact h
  split
  ·exact h.end _
  ·rename_i hk
   exact h.page (by omega) x
 ·unfold takeA
  split
  ·exact h.end _
  split
  ·exact h.end _
  ·exact h
theorem TOk.tick {t : TS} (h : TOk t) : TOk (tickT t).1 := by
 have hw := h.wt
 have h1 : TOk { t with waits := min (t.waits + 1) 1073741824 } := ⟨h.n,h.ps,by show 0 <= min (t.waits + 1) 1073741824 /\ min (t.waits + 1) 1073741824 <= 1073741824;omega,h.ph,h.n1,h.np⟩
 unfold tickT
 split
 ·exact h
 split
 ·exact h1.end _
 ·exact h1
end Ask
namespace Ask
open Plan Ops Ent Msg MO Vn
attribute [local go_sem ↓] storeVar_msg loadVar_msg
def letS : List Nat := [101,114,110,107,116,97,66]
section
variable (w : World) (x : MsgR)
structure Sends (w : World) (x : MsgR) : Prop where
 k : x.k = 5 \/ x.k = 8 \/ x.k = 9 \/ x.k = 11 \/ x.k = 12 \/ x.k = 13 \/ x.k = 15
 e : 0 <= x.ep /\ x.ep <= 1073741824
 r : 0 <= x.req /\ x.req <= 1073741824
 n : 0 <= x.n /\ x.n <= 1073741824
 key : x.key.size <= 8
 to : x.to.size <= 8
 s : Src w 3 x.oA x.ops.length (cells x.ops)
 c : x.ops.length <= x.oc
 b : x.k = 5 -> Ops.chk (xbat x) = 0
theorem rlets_size (l : List Nat) : (lets l).size = l.length := by unfold lets byt;rw [<- size_bl,bl_ofL,List.length_map]
theorem rlets_at {l : List Nat} (hl : ∀ c ∈ l,c < 256) {i c : Nat} (h : l[i]? = some c) : ∃ hi : i < (lets l).size,((lets l)[i]'hi).toNat = c := by
 have hi : i < l.length := (List.getElem?_eq_some_iff.1 h).1
 have hs : i < (lets l).size := by rw [rlets_size];exact hi
 refine ⟨hs,?_⟩
 have h1 : (lets l)[i]'hs = (byt l)[i]'(by unfold byt;rw [List.length_map];exact hi) := by
  unfold lets ofL
  rfl
 rw [h1]
 obtain ⟨_,e⟩ := List.getElem?_eq_some_iff.1 h
 have := hl c (List.mem_of_getElem? h)
 simp only [byt,List.getElem_map,e]
 exact UInt8.toNat_ofNat_of_lt this
end
theorem rparts_in {k : Int} (h : k = 5 \/ k = 8 \/ k = 9 \/ k = 11 \/ k = 12 \/ k = 13 \/ k = 15) : ∀ c ∈ partsOf k,c ∈ letS /\ (c = 66 -> k = 5) := by
 rcases h with rfl | rfl | rfl | rfl | rfl | rfl | rfl <;> decide
theorem Sends.kept {w w' : World} {x : MsgR} (h : Sends w x) (hk : Kept NoF w w') : Sends w' x := ⟨h.k,h.e,h.r,h.n,h.key,h.to,h.s.kept hk (fun _ _ z => z),h.c,h.b⟩
attribute [local go_sem] run_loadMsg
end Ask
namespace Ask
open Plan Ops Ent Msg MO Vn
structure JOk (t : TS) : Prop where
 ok : TOk t
 b : Ops.chk ⟨t.cl,t.rq,t.bo⟩ = 0
 key : t.a.k = 1 \/ t.a.k = 2 \/ t.a.k = 3 -> t.key.size <= 8 /\ t.a.key.size <= 8
 to : t.a.k = 2 -> t.a.to.size <= 8
 nd : t.a.k = 1 \/ t.a.k = 2 \/ t.a.k = 3 -> 0 <= t.a.nd /\ t.a.nd < 4
 n : t.a.k = 5 \/ t.a.k = 6 -> 0 <= t.a.n /\ t.a.n <= 1073741824
 p0 : t.ph = 0 -> t.a.k = 0 \/ t.a.k = 3
 p1 : t.ph = 1 -> t.a.k = 1 \/ t.a.k = 2 \/ t.a.k = 3
 p2 : t.ph = 2 -> t.a.k = 4 \/ t.a.k = 5 \/ t.a.k = 6
 e : t.r.e ≠ 0 -> t.r.ps = []
 rq : t.dn = true -> t.r.req = t.rq
 rl : t.r.ps.length <= 1000
theorem nextAt_len (l : List UInt8) (k : Nat) : (Keys.nextAt l k).length <= k := by
 induction k with
 | zero => exact Nat.le_refl _
 | succ k ih =>
  unfold Keys.nextAt
  split
  ·rw [List.length_append,List.length_take];show min k l.length + 1 <= k + 1;omega
  ·omega
theorem nextL_len (l : List UInt8) : (Keys.nextL l).length <= 8 := by
 unfold Keys.nextL
 split
 ·rw [List.length_append];show l.length + 1 <= 8;omega
 ·exact nextAt_len l 8
theorem nextKey_size (l : List PairR) : (nextKey l).size <= 8 := by
 unfold nextKey
 split
 ·decide
 ·rw [<- size_bl,bl_ofL];exact nextL_len _
theorem JOk.new {cl rq : Int} {a : AskR} (hn : I64 a.n) (h : newE cl rq a = 0) : JOk (newT cl rq a) := by
 have hok := TOk.new hn h
 have hm : (0 <= cl /\ cl < 3) /\ (1 <= rq /\ rq <= 1073741824) /\ mayB cl rq (boOf a) a = true := by
  unfold newE at h
  split at h
  ·cases h
  split at h
  ·cases h
  split at h
  ·exact ⟨by omega,by omega,by assumption⟩
  ·cases h
 obtain ⟨h1,h2,hm⟩ := hm
 have hb0 : Ops.chk ⟨cl,rq,[]⟩ = 0 := by
  unfold Ops.chk
  dsimp only [List.length_nil]
  rw [if_neg (by omega),if_neg (by omega),if_neg (by omega)]
  rfl
 unfold mayB at hm
 by_cases k0 : a.k = 0
 ·rw [if_pos k0] at hm
  refine ⟨hok,of_decide_eq_true hm,fun e => ?_,fun e => ?_,fun e => ?_,fun e => ?_,fun _ => .inl k0,fun e => ?_,fun e => ?_,fun e => absurd rfl e,fun e => ?_,by show (0 : Nat) <= 1000;decide⟩
  ·have e' : a.k = 1 \/ a.k = 2 \/ a.k = 3 := e;omega
  ·have e' : a.k = 2 := e;omega
  ·have e' : a.k = 1 \/ a.k = 2 \/ a.k = 3 := e;omega
  ·have e' : a.k = 5 \/ a.k = 6 := e;omega
  ·have e' : phOf a = 1 := e
   unfold phOf at e';rw [if_pos (.inl k0)] at e';cases e'
  ·have e' : phOf a = 2 := e
   unfold phOf at e';rw [if_pos (.inl k0)] at e';cases e'
  ·cases e
 rw [if_neg k0] at hm
 have hbo : boOf a = [] := by unfold boOf;rw [if_neg k0]
 have hb : Ops.chk ⟨cl,rq,boOf a⟩ = 0 := by rw [hbo];exact hb0
 by_cases k1 : a.k = 1 \/ a.k = 3
 ·rw [if_pos k1] at hm
  simp only [Bool.and_eq_true,decide_eq_true_eq] at hm
  have hs : a.key.size <= 8 := by
   have := hm.2
   unfold keyE at this
   split at this
   ·cases this
   ·omega
  refine ⟨hok,hb,fun _ => ⟨hs,hs⟩,fun e => ?_,fun _ => hm.1,fun e => ?_,fun e => ?_,fun e => ?_,fun e => ?_,fun e => absurd rfl e,fun e => ?_,by show (0 : Nat) <= 1000;decide⟩
  ·have e' : a.k = 2 := e;omega
  ·have e' : a.k = 5 \/ a.k = 6 := e;omega
  ·have e' : phOf a = 0 := e
   unfold phOf at e'
   by_cases k3 : a.k = 3
   ·exact .inr k3
   ·rw [if_neg (by omega),if_pos (by omega)] at e';cases e'
  ·show a.k = 1 \/ a.k = 2 \/ a.k = 3;omega
  ·have e' : phOf a = 2 := e
   unfold phOf at e'
   split at e'
   ·cases e'
   ·rw [if_pos (by omega)] at e';cases e'
  ·cases e
 rw [if_neg k1] at hm
 by_cases k2 : a.k = 2
 ·rw [if_pos k2] at hm
  simp only [Bool.and_eq_true,decide_eq_true_eq] at hm
  have hp : phOf a = 1 := by unfold phOf;rw [if_neg (by omega),if_pos (by omega)]
  refine ⟨hok,hb,fun _ => ⟨hm.2.1,hm.2.1⟩,fun _ => hm.2.2.1,fun _ => hm.1,fun e => ?_,fun e => ?_,fun e => .inr (.inl k2),fun e => ?_,fun e => absurd rfl e,fun e => ?_,by show (0 : Nat) <= 1000;decide⟩
  ·have e' : a.k = 5 \/ a.k = 6 := e;omega
  ·have e' : phOf a = 0 := e;omega
  ·have e' : phOf a = 2 := e;omega
  ·cases e
 rw [if_neg k2] at hm
 have hp : phOf a = 2 := by unfold phOf;rw [if_neg (by omega),if_neg (by omega)]
 by_cases k5 : a.k = 5 \/ a.k = 6
 ·rw [if_pos k5] at hm
  simp only [Bool.and_eq_true,decide_eq_true_eq] at hm
  refine ⟨hok,hb,fun e => ?_,fun e => absurd e k2,fun e => ?_,fun _ => hm,fun e => ?_,fun e => ?_,fun e => .inr k5,fun e => absurd rfl e,fun e => ?_,by show (0 : Nat) <= 1000;decide⟩
  ·have e' : a.k = 1 \/ a.k = 2 \/ a.k = 3 := e;omega
  ·have e' : a.k = 1 \/ a.k = 2 \/ a.k = 3 := e;omega
  ·have e' : phOf a = 0 := e;omega
  ·have e' : phOf a = 1 := e;omega
  ·cases e
 ·rw [if_neg k5] at hm
  have k4 : a.k = 4 := of_decide_eq_true hm
  refine ⟨hok,hb,fun e => ?_,fun e => absurd e k2,fun e => ?_,fun e => absurd e k5,fun e => ?_,fun e => ?_,fun e => .inl k4,fun e => absurd rfl e,fun e => ?_,by show (0 : Nat) <= 1000;decide⟩
  ·have e' : a.k = 1 \/ a.k = 2 \/ a.k = 3 := e;omega
  ·have e' : a.k = 1 \/ a.k = 2 \/ a.k = 3 := e;omega
  ·have e' : phOf a = 0 := e;omega
  ·have e' : phOf a = 1 := e;omega
  ·cases e
theorem JOk.end {t : TS} (h : JOk t) {r : RepR} (he : r.e ≠ 0 -> r.ps = []) (hl : r.ps.length <= 1000) : JOk (endT t r) :=
 ⟨h.ok.end r,h.b,h.key,h.to,h.nd,h.n,h.p0,h.p1,h.p2,he,fun _ => rfl,hl⟩
theorem JOk.tick {t : TS} (h : JOk t) : JOk (tickT t).1 := by
 have hok := h.ok.tick
 unfold tickT at hok ⊢
 split
 ·exact h
 rename_i hd
 rw [if_neg hd] at hok
 have hj : ∀ n,TOk { t with waits := n } -> JOk { t with waits := n } := fun n ho => ⟨ho,h.b,h.key,h.to,h.nd,h.n,h.p0,h.p1,h.p2,h.e,h.rq,h.rl⟩
 have hw := h.ok.wt
 have h1 : TOk { t with waits := min (t.waits + 1) 1073741824 } := ⟨h.ok.n,h.ok.ps,by show 0 <= min (t.waits + 1) 1073741824 /\ min (t.waits + 1) 1073741824 <= 1073741824;omega,h.ok.ph,h.ok.n1,h.ok.np⟩
 split
 ·exact (hj _ h1).end (fun _ => rfl) (by show (0 : Nat) <= 1000;decide)
 ·exact hj _ h1
theorem JOk.take {t : TS} (h : JOk t) (f : Int) (x : MsgR) : JOk (takeT t f x).1 := by
 have hok := h.ok.take f x
 unfold takeT at hok ⊢
 split
 ·exact h
 rename_i hg
 rw [if_neg hg] at hok
 split
 ·rename_i hp
  rw [if_pos hp] at hok
  have hkk := h.p0 hp
  unfold takeW at hok ⊢
  split
  ·exact h.end (fun _ => rfl) (by show (0 : Nat) <= 1000;decide)
  rename_i g1
  rw [if_neg g1] at hok
  split
  ·exact h
  rename_i g2
  rw [if_neg g2] at hok
  split
  ·exact h.end (fun e => absurd rfl e) (by show (0 : Nat) <= 1000;decide)
  ·rename_i g3
   rw [if_neg g3] at hok
   have hk3 : t.a.k = 3 := by omega
   refine ⟨hok,h.b,fun e => ⟨(h.key e).2,(h.key e).2⟩,h.to,h.nd,h.n,fun e => ?_,fun _ => .inr (.inr hk3),fun e => ?_,h.e,h.rq,h.rl⟩
   ·cases e
   ·cases e
 rename_i hp0
 rw [if_neg hp0] at hok
 split
 ·rename_i hp
  rw [if_pos hp] at hok
  unfold takeR at hok ⊢
  split
  ·exact h.end (fun _ => rfl) (by show (0 : Nat) <= 1000;decide)
  rename_i g1
  rw [if_neg g1] at hok
  split
  ·exact h
  rename_i g2
  rw [if_neg g2] at hok
  split
  ·exact h.end (fun e => absurd rfl e) (by show (x.ps.take 1).length <= 1000;rw [List.length_take];omega)
  ·rename_i g3
   rw [if_neg g3] at hok
   have hk2 : t.a.k = 2 := by omega
   unfold pageT at hok ⊢
   split
   ·rename_i g4
    rw [if_pos g4] at hok
    exact ⟨hok,h.b,fun e => ⟨nextKey_size _,(h.key e).2⟩,h.to,h.nd,h.n,h.p0,h.p1,h.p2,h.e,h.rq,h.rl⟩
   ·rename_i g4
    rw [if_neg g4] at hok
    have hl := hok.ps.1
    exact ⟨hok,h.b,h.key,h.to,h.nd,h.n,h.p0,h.p1,h.p2,fun e => absurd rfl e,fun _ => rfl,by show (t.ps ++ pageL t x).length <= 1000;exact Nat.le_trans hl (by decide)⟩
 ·unfold takeA
  split
  ·exact h.end (fun e => absurd rfl e) (by show (0 : Nat) <= 1000;decide)
  split
  ·exact h.end (fun _ => rfl) (by show (0 : Nat) <= 1000;decide)
  ·exact h
theorem tick_done {t : TS} (h : t.dn = true) : (tickT t).1 = t := by unfold tickT;rw [if_pos h]
end Ask
end Go.Proofs.YtgbigpdiacjbgaaGreat

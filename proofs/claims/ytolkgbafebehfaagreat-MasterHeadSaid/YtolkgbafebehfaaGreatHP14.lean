/- Part 15 of what the proof needs. -/
import Derived.Test.YtolkgbafebehfaaGreatHP00
import Derived.Test.YtolkgbafebehfaaGreatHP13
import Derived.Test.YtolkgbafebehfaaGreatChecked
import Derived.Shelf.Sort.Plain
import Derived.Shelf.Slices.In.SortNone
import Derived.Sort.OwnSorted
import Derived.Sort.KeysCollected
import Derived.Sort.OwnSortedInts
set_option linter.unusedSimpArgs false
set_option linter.unusedVariables false
set_option maxHeartbeats 32000000
set_option maxRecDepth 100000
namespace Go.Proofs.YtolkgbafebehfaaGreat
open Go.RowKit
set_option maxRecDepth 100000
theorem Kept.up {F : Nat -> Prop} {a b : World} (h : Kept NoF a b) : Kept F a b := h.mono (fun _ z => z.elim)
namespace Mst
open Plan Vn
def nextE (s : StR) (x : NoteR) : Int := if x.ep <= s.ep then 18 else if (x.lg.any fun id => !anyId x.ms id) = true then 7 else if inB x.lg (headI x.ms) = false then 18 else 0
def NextPost (w : World) (b : Nat) (s : StR) (x : NoteR) (pA : Option Addr) (pc : Nat) (e : Ending) (w' : World) : Prop :=
 (nextE s x ≠ 0 /\ e = .returned (.int .i64 (nextE s x)) /\ Kept NoF w w') \/
 (nextE s x = 0 /\ e = .returned (.int .i64 0) /\ ∃ A c B d,Has w' b 171 (scells { s with ep := x.ep,ms := x.ms,fl := x.fl,lg := x.lg } A c B d pA pc true) /\
  NewSl 53 2 w.heap.size w' A x.ms.length c (mcells x.ms) /\ NewSl 3 1 w.heap.size w' B x.lg.length d (ints x.lg) /\ Kept (fun k => k = b) w w')
theorem next_any (w : World) (b : Nat) (s : StR) (mA : Option Addr) (mc : Nat) (lA : Option Addr) (lc : Nat) (pA : Option Addr) (pc : Nat) (x : NoteR) (hb : Has w b 171 (scells s mA mc lA lc pA pc true)) (h : NOk w x) :
  Calls Tryz.prog 133 #[.pointer (some ⟨b,0,none⟩),nagg x] w (NextPost w b s x pA pc) := by
 obtain ⟨E,hE⟩ : ∃ E,nextE s x = E := ⟨_,rfl⟩
 have hPE : ∀ w',E ≠ 0 -> Kept NoF w w' -> NextPost w b s x pA pc (.returned (.int .i64 E)) w' := fun w' h0 hk => .inl ⟨by rw [hE];exact h0,by rw [hE],hk⟩
 have hP0 : ∀ w' A c B d,E = 0 -> Has w' b 171 (scells { s with ep := x.ep,ms := x.ms,fl := x.fl,lg := x.lg } A c B d pA pc true) ->
   NewSl 53 2 w.heap.size w' A x.ms.length c (mcells x.ms) -> NewSl 3 1 w.heap.size w' B x.lg.length d (ints x.lg) -> Kept (fun k => k = b) w w' -> NextPost w b s x pA pc (.returned (.int .i64 0)) w' :=
  fun w' A c B d h0 h1 h2 h3 h4 => .inr ⟨by rw [hE,h0],rfl,A,c,B,d,h1,h2,h3,h4⟩
 unfold nextE at hE
 have hbn : b ≠ w.heap.size := by have := hb.lt;omega
 -- the world behind the box
 obtain ⟨W0,hW0⟩ : ∃ W0,w.alloc (.cells (ncell x).toArray 100) = W0 := ⟨_,rfl⟩
 have hk0 : Kept NoF w W0 := by rw [<- hW0];(repeat' (first | (with_reducible first | exact kR0 | apply kP0 | apply kN0 | apply kD0 | apply kA0) | (right;simp;done)))
 have hn0 : Has W0 w.heap.size 100 (ncell x).toArray := by rw [<- hW0];exact Has.new _ _ _
 have hb0 := hb.kept hk0 (fun z => z)
 have h0 := h.kept hk0
 have hstr := fun W (hW : Kept NoF W0 W) => hasInt_any W x.lA x.lc x.lg 228 (.pointer (some ⟨w.heap.size,0,none⟩)) (fun id => !anyId x.ms id) (fun args W => enters Tryz.func228 (by kernel_rfl) rfl args W) (h0.kept hW).l (by have := h.ll;omega)
  (fun W2 y hW2 _ => next1_any W2 x w.heap.size y ((hn0.kept hW (fun z => z)).kept hW2 (fun z => z)) ((h0.kept hW).kept hW2))
 have hhead := fun W (hW : Kept NoF W0 W) => phead_any W x.ep x.fl x.mA x.mc x.ms (h0.kept hW).m (by have := h.ml;omega)
 have hcon := fun W (hW : Kept NoF W0 W) => containsI_any W x.lA x.lc x.lg (headI x.ms) (h0.kept hW).l (by have := h.ll;omega)
 have hown := fun W (hW : Kept NoF W0 W) => own_any W x.ep x.fl x.mA x.mc x.ms (h0.kept hW).m (by have := h.ml;omega)
 have hcl := fun W (hW : Kept NoF W0 W) => cloneInt_any W x.lA x.lc x.lg (h0.kept hW).l (by have := h.ll;omega)
 obtain ⟨S7,hS7⟩ : ∃ S7,(x.lg.any fun id => !anyId x.ms id) = S7 := ⟨_,rfl⟩
 obtain ⟨S8,hS8⟩ : ∃ S8,inB x.lg (headI x.ms) = S8 := ⟨_,rfl⟩
 obtain ⟨HI,hHI⟩ : ∃ HI,headI x.ms = HI := ⟨_,rfl⟩
 rw [hS7,hS8] at hE
 rw [hS7] at hstr
 rw [hS8] at hcon
 rw [hHI] at hcon hhead
 clear h h0 hS7 hS8 hHI
 obtain ⟨k,n,at2,ep,mA2,mc2,ms,fl,lA2,lc2,lg,oA,oc,⟨bcl,breq,ops⟩,ts,⟨p1,p2,p3⟩,⟨s1,s2,s3,s4⟩⟩ := x
 simp only [ncell] at hP0 hPE hE hn0 hstr hhead hcon hown hcl
 have hcells : ∀ W,Kept NoF W0 W -> W.cell? ⟨w.heap.size,3,none⟩ = some (.int .i64 ep) /\ W.cell? ⟨w.heap.size,4,none⟩ = some (.slice mA2 ms.length mc2) /\ W.cell? ⟨w.heap.size,5,none⟩ = some (.int .u64 fl) /\ W.cell? ⟨w.heap.size,6,none⟩ = some (.slice lA2 lg.length lc2) := fun W hW => by
  have g := hn0.kept hW (fun z => z)
  exact ⟨g.cell 3,g.cell 4,g.cell 5,g.cell 6⟩
 have hfr : ∀ W,Kept NoF W0 W -> Has W b 171 (scells s mA mc lA lc pA pc true) := fun W hW => hb0.kept hW (fun z => z)
 have hcells2 : ∀ W,Kept (fun k => k = b) W0 W -> W.cell? ⟨w.heap.size,3,none⟩ = some (.int .i64 ep) /\ W.cell? ⟨w.heap.size,4,none⟩ = some (.slice mA2 ms.length mc2) /\ W.cell? ⟨w.heap.size,5,none⟩ = some (.int .u64 fl) /\ W.cell? ⟨w.heap.size,6,none⟩ = some (.slice lA2 lg.length lc2) := fun W hW => by
  have g := hn0.kept hW (fun z => hbn z.symm)
  exact ⟨g.cell 3,g.cell 4,g.cell 5,g.cell 6⟩
 have HCE2 := hZ0 hcells2;clear hcells2
 obtain ⟨c3,c4,c5,c6⟩ := hcells W0 (Kept.refl _ _)
 have cb := hb0.cell 0
 simp only [List.getElem?_toArray,List.getElem?_cons_zero,List.getElem?_cons_succ] at cb
 have HPE := hZ0 hPE;have HP0 := hZ0 hP0;have HE := hZ0 hE;have HST := hZ0 hstr;have HHD := hZ0 hhead;have HCON := hZ0 hcon;have HOWN := hZ0 hown;have HCL := hZ0 hcl;have HCE := hZ0 hcells;have HFR := hZ0 hfr
 have HK0 := hZ0 hk0
 have HBN := hZ0 (And.intro hbn hb.lt)
 clear hPE hP0 hE hstr hhead hcon hown hcl hcells hfr hb hb0 hn0 hk0 hbn
 go_enter Tryz.func133,Tryz.ntmps133
 go_wp2_with fail
 clear hW0
 by_cases h1 : ep <= s.ep
 ·have he := HE.out
  rw [if_pos h1] at he
  subst he
  go_quiet (fail)
  go_wp2
  go_ret
  exact HPE.out _ (by decide) (HK0.out.then (by (repeat' (first | (with_reducible first | exact kR0 | apply kP0 | apply kN0 | apply kD0 | apply kA0) | (right;simp;done)))))
 ·have he := HE.out
  rw [if_neg h1] at he
  clear HE
  have HE := hZ0 he;clear he
  go_quiet (fail)
  have q := HCE.out (W0.drewN nq) (by (repeat' (first | (with_reducible first | exact kR0 | apply kP0 | apply kN0 | apply kD0 | apply kA0) | (right;simp;done))))
  obtain ⟨q3,q4,q5,q6⟩ := q
  clear c3 c4 c5 c6 cb
  go_wp2_with fail
  refine (HST.out _ (by (repeat' (first | (with_reducible first | exact kR0 | apply kP0 | apply kN0 | apply kD0 | apply kA0) | (right;simp;done))))).mono ?_
  rintro e w2 ⟨rfl,hk⟩
  have hk2 := Kept.then (F := NoF) (a := W0) (by (repeat' (first | (with_reducible first | exact kR0 | apply kP0 | apply kN0 | apply kD0 | apply kA0) | (right;simp;done)))) hk
  have HK2 := hZ0 hk2;clear hk hk2 q3 q4 q5 q6
  cases S7
  ·have he := HE.out
   rw [if_neg (by simp)] at he
   clear HE
   have HE := hZ0 he;clear he
   obtain ⟨q3,q4,q5,q6⟩ := HCE.out w2 HK2.out
   go_wp2_with fail
   have HS := hZ0 (Kept.refl NoF w2)
   go_region_held3 (fun W => W.cell? ⟨w.heap.size,3,none⟩ = some (.int .i64 ep) /\ W.cell? ⟨w.heap.size,4,none⟩ = some (.slice mA2 ms.length mc2) /\ W.cell? ⟨w.heap.size,5,none⟩ = some (.int .u64 fl) /\ W.cell? ⟨w.heap.size,6,none⟩ = some (.slice lA2 lg.length lc2))
    (first | with_reducible exact HCE.out _ (HK2.out.then HS.out) | exact HCE.out _ (HK2.out.then HS.out.drew) | (simp [go_sem,q3,q4,q5,q6];done))
    (first
     | (go_at_call 145;((with_reducible refine (HHD.out _ ?_).mono ?_);exact HK2.out.then (by (repeat' (first | (with_reducible first | exact kR0 | apply kP0 | apply kN0 | apply kD0 | apply kA0) | (exact HS.out) | (right;simp;done))));rintro e w5 ⟨rfl,hk0⟩;have hk := Kept.then (F := NoF) (a := w2) (by (repeat' (first | (with_reducible first | exact kR0 | apply kP0 | apply kN0 | apply kD0 | apply kA0) | (exact HS.out) | (right;simp;done)))) hk0;clear HS hk0;have HS := hZ0 hk;clear hk))
     | (go_at_call 142;((with_reducible refine (HCON.out _ ?_).mono ?_);exact HK2.out.then (by (repeat' (first | (with_reducible first | exact kR0 | apply kP0 | apply kN0 | apply kD0 | apply kA0) | (exact HS.out) | (right;simp;done))));rintro e w5 ⟨rfl,hk0⟩;have hk := Kept.then (F := NoF) (a := w2) (by (repeat' (first | (with_reducible first | exact kR0 | apply kP0 | apply kN0 | apply kD0 | apply kA0) | (exact HS.out) | (right;simp;done)))) hk0;clear HS hk0;have HS := hZ0 hk;clear hk)))
   have HK5 := hZ0 (HK2.out.then HS.out);clear HS HK2 q3 q4 q5 q6
   obtain ⟨q3,q4,q5,q6⟩ := HCE.out w5 HK5.out
   cases S8
   ·have he := HE.out
    rw [if_pos rfl] at he
    subst he
    go_wp2
    go_ret
    exact HPE.out _ (by decide) (HK0.out.then HK5.out)
   ·have he := HE.out
    rw [if_neg (by simp)] at he
    clear HE
    have HE := hZ0 he;clear he
    have hst : ∀ W,Kept NoF w5 W -> W.cell? ⟨b,0,none⟩ = some (.int .i64 s.ep) /\ W.cell? ⟨b,1,none⟩ = some (.slice mA s.ms.length mc) /\ W.cell? ⟨b,2,none⟩ = some (.int .u64 s.fl) /\ W.cell? ⟨b,3,none⟩ = some (.slice lA s.lg.length lc) /\ W.frozen? ⟨b,0,none⟩ = false /\ W.frozen? ⟨b,1,none⟩ = false /\ W.frozen? ⟨b,2,none⟩ = false /\ W.frozen? ⟨b,3,none⟩ = false := fun W hW => by
     have g := HFR.out W (HK5.out.then hW)
     exact ⟨g.cell 0,g.cell 1,g.cell 2,g.cell 3,g.frozen 0,g.frozen 1,g.frozen 2,g.frozen 3⟩
    have HST2 := hZ0 hst;clear hst
    go_wp2_with fail
    have HS := hZ0 (Kept.refl NoF w5)
    go_region_held3 (fun W => W.cell? ⟨w.heap.size,3,none⟩ = some (.int .i64 ep) /\ W.cell? ⟨w.heap.size,4,none⟩ = some (.slice mA2 ms.length mc2) /\ W.cell? ⟨w.heap.size,5,none⟩ = some (.int .u64 fl) /\ W.cell? ⟨w.heap.size,6,none⟩ = some (.slice lA2 lg.length lc2))
     (first | with_reducible exact HCE.out _ (HK5.out.then HS.out) | (refine HCE2.out _ ?_;(repeat' (first | (with_reducible first | exact kR0 | apply kP0 | apply kN0 | apply kD0 | apply kA0) | (first | exact Or.inl (Or.inl rfl) | exact Or.inl rfl | with_reducible exact Kept.up (HK5.out.then HS.out)) | (right;simp;done)));done) | exact HCE.out _ (HK5.out.then HS.out.drew) | (simp [go_sem,q3,q4,q5,q6];done))
     (first
      | (go_at_call 117;((with_reducible refine (HOWN.out _ ?_).mono ?_);exact HK5.out.then (by (repeat' (first | (with_reducible first | exact kR0 | apply kP0 | apply kN0 | apply kD0 | apply kA0) | (exact HS.out) | (right;simp;done))));rintro e w6 ⟨A1,c1,rfl,hn1,hk0⟩;have hk := Kept.then (F := NoF) (a := w5) (by (repeat' (first | (with_reducible first | exact kR0 | apply kP0 | apply kN0 | apply kD0 | apply kA0) | (exact HS.out) | (right;simp;done)))) hk0;have HN1 := hZ0 (And.intro hn1 HS.out.size);obtain ⟨k0,k1,k2,k3,f0,f1,f2,f3⟩ := HST2.out _ hk;clear HS hn1;have HQ1 := hZ0 hk0;clear hk0;have HS := hZ0 hk;clear hk))
      | (go_at_call 118;((with_reducible refine (HCL.out _ ?_).mono ?_);exact HK5.out.then (by (repeat' (first | (with_reducible first | exact kR0 | apply kP0 | apply kN0 | apply kD0 | apply kA0) | (exact HS.out) | (right;simp;done))));rintro e w7 ⟨A2,c2,rfl,hn2,hk0⟩;have hk := Kept.then (F := NoF) (a := w5) (by (repeat' (first | (with_reducible first | exact kR0 | apply kP0 | apply kN0 | apply kD0 | apply kA0) | (exact HS.out) | (right;simp;done)))) hk0;have HN2 := hZ0 (And.intro hn2 HS.out.size);obtain ⟨k0,k1,k2,k3,f0,f1,f2,f3⟩ := HST2.out _ hk;clear HS hn2;have HQ2 := hZ0 hk0;clear hk0;have HS := hZ0 hk;clear hk)))
    have hb7 := HFR.out w7 (HK5.out.then HS.out)
    have ho1 := own_kept (F := NoF) HN1.out.1.1 (Kept.then (F := NoF) (by (repeat' (first | (with_reducible first | exact kR0 | apply kP0 | apply kN0 | apply kD0 | apply kA0) | (right;simp;done)))) HQ2.out) (fun _ _ z => z)
    have ho2 := HN2.out.1.1
    have hne1 := own_ne ho1 hb7 (by decide)
    have hne2 := own_ne ho2 hb7 (by decide)
    have hz1 := HN1.out.1.2
    have hz2 := HN2.out.1.2
    have hs1 := HN1.out.2
    have hs2 := HN2.out.2
    have hs0 := (HK0.out.then HK5.out).size
    have hk7 := HK0.out.then (HK5.out.then HS.out)
    have HX := hZ0 (And.intro ho1 (And.intro ho2 (And.intro hne1 (And.intro hne2 (And.intro hz1 hz2)))))
    have HZ := hZ0 (And.intro hs1 (And.intro hs2 hs0))
    have HB7 := hZ0 hb7;have HK7 := hZ0 hk7
    have HE0 := hZ0 HE.out
    clear ho1 ho2 hne1 hne2 hz1 hz2 hs1 hs2 hs0 hb7 hk7 q3 q4 q5 q6 k0 k1 k2 k3 f0 f1 f2 f3 HN1 HN2 HQ1 HQ2 HE
    go_wp2
    go_ret
    obtain ⟨ho1,ho2,hne1,hne2,hz1,hz2⟩ := HX.out
    obtain ⟨hs1,hs2,hs0⟩ := HZ.out
    have hkf : Kept (fun k => k = b) w7 ((((w7.setCell ⟨b,0,none⟩ (.int .i64 ep)).setCell ⟨b,1,none⟩ (.slice A1 ms.length c1)).setCell ⟨b,2,none⟩ (.int .u64 fl)).setCell ⟨b,3,none⟩ (.slice A2 lg.length c2)) :=
     ((((Kept.refl (fun k => k = b) w7).put (.inl rfl)).put (.inl rfl)).put (.inl rfl)).put (.inl rfl)
    refine HP0.out _ A1 c1 A2 c2 HE0.out.symm ?_ ⟨own_kept ho1 hkf (fun g hg hF => hne1 (by rw [hg,hF])),fun g hg => ?_⟩ ⟨own_kept ho2 hkf (fun g hg hF => hne2 (by rw [hg,hF])),fun g hg => ?_⟩ ((Kept.up HK7.out).then hkf)
    ·((repeat (first | with_reducible exact HB7.out | with_reducible apply Has.put_of | with_reducible apply Has.past | with_reducible apply Has.drewN | with_reducible apply Has.drew | with_reducible apply Has.alloc)) <;> first | omega | rfl)
    ·exact Nat.le_trans hs0 (Nat.le_trans hs1 (hz1 g hg))
    ·exact Nat.le_trans hs0 (Nat.le_trans hs2 (hz2 g hg))
  ·have he := HE.out
   rw [if_pos rfl] at he
   subst he
   go_wp2
   go_ret
   exact HPE.out _ (by decide) (HK0.out.then HK2.out)
end Mst
end Go.Proofs.YtolkgbafebehfaaGreat
namespace Go.Proofs.YtolkgbafebehfaaGreat
open Go.Shelf Go.Sort Go.RowKit
set_option maxRecDepth 100000
namespace Srt
def lays189_ren : Go.Shelf.Ren := ⟨fun | 189 => 110 | 125 => 203 | 257 => 202 | 128 => 317 | 129 => 318 | 294 => 308 | 295 => 309 | 296 => 310 | 297 => 311 | 298 => 312 | 299 => 313 | 216 => 314 | 300 => 315 | 301 => 316 | 328 => 363 | 329 => 364 | 330 => 365 | 331 => 366 | 332 => 367 | 215 => 368 | 343 => 381 | n => n,fun | 28 => 36 | 3 => 3 | 46 => 269 | 0 => 0 | 51 => 375 | 53 => 23 | 4 => 4 | 183 => 368 | 182 => 367 | 131 => 173 | 5 => 5 | 9 => 9 | 218 => 421 | 222 => 301 | 228 => 433 | 229 => 223 | n => n,fun | n => n⟩
theorem lays189 : Go.Proofs.Lays.n189 Tryz.prog lays189_ren := {
 mixed := by kernel_rfl
 f125 := Tryz.func203.trans (congrArg some (by kernel_rfl))
 f128 := Tryz.func317.trans (congrArg some (by kernel_rfl))
 f129 := Tryz.func318.trans (congrArg some (by kernel_rfl))
 f189 := Tryz.func110.trans (congrArg some (by kernel_rfl))
 f215 := Tryz.func368.trans (congrArg some (by kernel_rfl))
 f216 := Tryz.func314.trans (congrArg some (by kernel_rfl))
 f257 := Tryz.func202.trans (congrArg some (by kernel_rfl))
 f294 := Tryz.func308.trans (congrArg some (by kernel_rfl))
 f295 := Tryz.func309.trans (congrArg some (by kernel_rfl))
 f296 := Tryz.func310.trans (congrArg some (by kernel_rfl))
 f297 := Tryz.func311.trans (congrArg some (by kernel_rfl))
 f298 := Tryz.func312.trans (congrArg some (by kernel_rfl))
 f299 := Tryz.func313.trans (congrArg some (by kernel_rfl))
 f300 := Tryz.func315.trans (congrArg some (by kernel_rfl))
 f301 := Tryz.func316.trans (congrArg some (by kernel_rfl))
 f328 := Tryz.func363.trans (congrArg some (by kernel_rfl))
 f329 := Tryz.func364.trans (congrArg some (by kernel_rfl))
 f330 := Tryz.func365.trans (congrArg some (by kernel_rfl))
 f331 := Tryz.func366.trans (congrArg some (by kernel_rfl))
 f332 := Tryz.func367.trans (congrArg some (by kernel_rfl))
 f343 := Tryz.func381.trans (congrArg some (by kernel_rfl))
 t0 := Tryz.underlying0
 a0 := Tryz.isAgg0
 z0 := Tryz.sizeOf0
 v0 := Tryz.zeroValue0
 t3 := Tryz.underlying3
 a3 := Tryz.isAgg3
 z3 := Tryz.sizeOf3
 v3 := Tryz.zeroValue3
 t4 := Tryz.underlying4
 a4 := Tryz.isAgg4
 z4 := Tryz.sizeOf4
 v4 := Tryz.zeroValue4
 t5 := Tryz.underlying5
 a5 := Tryz.isAgg5
 z5 := Tryz.sizeOf5
 v5 := Tryz.zeroValue5
 t9 := Tryz.underlying9
 a9 := Tryz.isAgg9
 z9 := Tryz.sizeOf9
 v9 := Tryz.zeroValue9
 t28 := Tryz.underlying36
 a28 := Tryz.isAgg36
 z28 := Tryz.sizeOf36
 v28 := Tryz.zeroValue36
 t46 := Tryz.underlying269
 a46 := Tryz.isAgg269
 z46 := Tryz.sizeOf269
 v46 := Tryz.zeroValue269
 t51 := Tryz.underlying375
 a51 := Tryz.isAgg375
 z51 := Tryz.sizeOf375
 v51 := Tryz.zeroValue375
 t53 := Tryz.underlying23
 a53 := Tryz.isAgg23
 z53 := Tryz.sizeOf23
 v53 := Tryz.zeroValue23
 t131 := Tryz.underlying173
 a131 := Tryz.isAgg173
 z131 := Tryz.sizeOf173
 v131 := Tryz.zeroValue173
 t182 := Tryz.underlying367
 a182 := Tryz.isAgg367
 z182 := Tryz.sizeOf367
 v182 := Tryz.zeroValue367
 t183 := Tryz.underlying368
 a183 := Tryz.isAgg368
 z183 := Tryz.sizeOf368
 v183 := Tryz.zeroValue368
 t218 := Tryz.underlying421
 a218 := Tryz.isAgg421
 z218 := Tryz.sizeOf421
 v218 := Tryz.zeroValue421
 t222 := Tryz.underlying301
 a222 := Tryz.isAgg301
 z222 := Tryz.sizeOf301
 v222 := Tryz.zeroValue301
 t228 := Tryz.underlying433
 a228 := Tryz.isAgg433
 z228 := Tryz.sizeOf433
 v228 := Tryz.zeroValue433
 t229 := Tryz.underlying223
 a229 := Tryz.isAgg223
 z229 := Tryz.sizeOf223
 v229 := Tryz.zeroValue223 }
theorem slices_Sort_int (blk off cap : Nat) (zs : List Int) (w : World) (hH : Holds (Value.int .i64) w blk off zs.toArray) (hblk : blk < w.heap.size) (hsz : zs.length < 4611686018427387904) :
  Calls Tryz.prog 110 #[.slice (some ⟨blk,off,none⟩) zs.length cap] w fun e w' =>
   e = .returned (.tuple #[]) /\ ∃ n os,w' = grow (putRow (Value.int .i64) (Sort.ahead w n) blk off (zs.mergeSort fun x y => decide (x <= y)).toArray) os := Any.slices_Sort_int lays189 blk off cap zs w hH hblk hsz
theorem slices_Sort_int_none (p : Option Addr) (cap : Nat) (w : World) :
  Calls Tryz.prog 110 #[.slice p 0 cap] w fun e w' => e = .returned (.tuple #[]) /\ w' = w := Any.slices_Sort_int_none lays189 p cap w
end Srt
end Go.Proofs.YtolkgbafebehfaaGreat
namespace Go.Proofs.YtolkgbafebehfaaGreat
open Go.RowKit
set_option maxRecDepth 100000
namespace Mst
open Plan Vn Go.Sort
abbrev RowOf (v : Value) (k : Nat) : Prop := v.ownBlock = some k
def sortI (l : List Int) : List Int := l.mergeSort fun x y => decide (x <= y)
theorem sortI_length (l : List Int) : (sortI l).length = l.length := by simp [sortI]
theorem sortI_own {w : World} {B : Nat} {A : Option Addr} {n c : Nat} {ss : List Int} (hn : n = ss.length) (h : w.ownsRow B 3 1 (.slice A n c) n (ints ss)) (hsz : ss.length < 4611686018427387904) :
  Calls Tryz.prog 110 #[.slice A n c] w fun e w' => e = .returned (.tuple #[]) /\ w'.ownsRow B 3 1 (.slice A n c) n (ints (sortI ss)) /\ Kept (RowOf (.slice A n c)) w w' := by
 subst hn
 have h' := h
 rcases h.2 with ⟨hv,h0⟩ | ⟨g,cap,cur,hv,hb',hg,h1,h2,h3,h4⟩
 ·have hs : ss = [] := List.eq_nil_of_length_eq_zero h0
  subst hs
  refine (Srt.slices_Sort_int_none A c w).mono ?_
  rintro e w' ⟨rfl,rfl⟩
  exact ⟨rfl,by simpa [sortI] using h',Kept.refl _ _⟩
 ·injection hv with e1 e2 e3
  subst e1
  subst e3
  refine (Srt.slices_Sort_int g 0 c ss w (holds_of_blockI hg (by simpa using h4)) (Array.getElem?_eq_some_iff.1 hg).1 hsz).mono ?_
  rintro e w' ⟨rfl,n,os,rfl⟩
  exact ⟨rfl,ownsRow_sortedI (by simp) hb' hg h1 h2 h3,(Kept.refl _ _).grownBy (grownBy_sortedI _) (fun k hk => .inl hk)⟩
def trustL (l : List Int) (id : Int) : List Int := if inB l id = true then l else sortI (l ++ [id])
def TrustPost (w : World) (b : Nat) (s : StR) (mA : Option Addr) (mc : Nat) (lA : Option Addr) (lc : Nat) (pA : Option Addr) (pc : Nat) (id : Int) (e : Ending) (w' : World) : Prop :=
 (anyId s.ms id = false /\ e = .returned (.int .i64 7) /\ Kept NoF w w') \/
 (anyId s.ms id = true /\ e = .returned (.int .i64 0) /\ ∃ B d,Has w' b 171 (scells { s with lg := trustL s.lg id } mA mc B d pA pc true) /\ w'.ownsRow 0 3 1 (.slice B (trustL s.lg id).length d) (trustL s.lg id).length (ints (trustL s.lg id)) /\
  (∀ k,RowOf (.slice B (trustL s.lg id).length d) k -> RowOf (.slice lA s.lg.length lc) k \/ w.heap.size <= k) /\ Kept (fun k => k = b \/ RowOf (.slice lA s.lg.length lc) k) w w')
theorem trust_any (w : World) (b : Nat) (s : StR) (mA : Option Addr) (mc : Nat) (lA : Option Addr) (lc : Nat) (pA : Option Addr) (pc : Nat) (id : Int) (hb : Has w b 171 (scells s mA mc lA lc pA pc true))
  (hm : Src w 2 mA s.ms.length (mcells s.ms)) (hml : s.ms.length <= 1000) (hl : w.ownsRow 0 3 1 (.slice lA s.lg.length lc) s.lg.length (ints s.lg)) (hll : s.lg.length <= 1000) :
  Calls Tryz.prog 134 #[.pointer (some ⟨b,0,none⟩),.int .i64 id] w (TrustPost w b s mA mc lA lc pA pc id) := by
 have hmem := fun W (hW : Kept NoF w W) => member_any W s.ep s.fl mA mc s.ms id (hm.kept hW (fun _ _ z => z)) (by omega)
 have hcon := fun W (hW : Kept NoF w W) => containsI_any W lA lc s.lg id ((Src.of_own hl).kept hW (fun _ _ z => z)) (by omega)
 have hce : ∀ W,Kept NoF w W -> W.cell? ⟨b,0,none⟩ = some (.int .i64 s.ep) /\ W.cell? ⟨b,1,none⟩ = some (.slice mA s.ms.length mc) /\ W.cell? ⟨b,2,none⟩ = some (.int .u64 s.fl) /\ W.cell? ⟨b,3,none⟩ = some (.slice lA s.lg.length lc) /\ W.frozen? ⟨b,3,none⟩ = false := fun W hW => by
  have g := hb.kept hW (fun z => z)
  exact ⟨g.cell 0,g.cell 1,g.cell 2,g.cell 3,g.frozen 3⟩
 obtain ⟨c0,c1,c2,c3,f3⟩ := hce w (Kept.refl _ _)
 have HM := hZ0 hmem;have HCON := hZ0 hcon;have HCE := hZ0 hce;have HB := hZ0 hb;have HL := hZ0 hl
 have HP : Hid _ := hZ0 (show ∀ e w',TrustPost w b s mA mc lA lc pA pc id e w' -> TrustPost w b s mA mc lA lc pA pc id e w' from fun _ _ h => h)
 cases h1 : anyId s.ms id
 ·have H1 := hZ0 h1
  rw [h1] at hmem
  have HM := hZ0 hmem
  clear hmem hcon hce hb hl hm h1 c3 f3
  go_enter Tryz.func134,Tryz.ntmps134
  go_wp2_with fail
  refine (HM.out _ (Kept.refl _ _)).mono ?_
  rintro e w2 ⟨rfl,hk⟩
  have HK := hZ0 hk;clear hk
  go_wp2
  go_ret
  exact .inl ⟨H1.out,rfl,HK.out⟩
 ·have H1 := hZ0 h1
  rw [h1] at hmem
  have HM := hZ0 hmem
  clear hmem hce hm h1 c3 f3
  cases h2 : inB s.lg id
  ·have hT : trustL s.lg id = sortI (s.lg ++ [id]) := by unfold trustL;rw [h2,if_neg (by simp)]
   rw [h2] at hcon
   have HC := hZ0 hcon;have HT := hZ0 hT
   clear hcon hb hl h2 hT
   go_enter Tryz.func134,Tryz.ntmps134
   go_wp2_with fail
   refine (HM.out _ (Kept.refl _ _)).mono ?_
   rintro e w2 ⟨rfl,hk⟩
   have HK := hZ0 hk;clear hk c0 c1 c2
   obtain ⟨c0,c1,c2,c3,f3⟩ := HCE.out w2 HK.out
   go_wp2_with fail
   refine (HC.out _ HK.out).mono ?_
   rintro e w3 ⟨rfl,hk⟩
   have hk3 := HK.out.then hk
   clear hk c0 c1 c2 c3 f3
   have HK3 := hZ0 hk3;clear hk3
   obtain ⟨c0,c1,c2,c3,f3⟩ := HCE.out w3 HK3.out
   go_wp2_with (at_builtin;refine list_append_src elemInt (.tmp 23) (.tmp 25) rfl rfl (Value.slice lA s.lg.length lc) rfl (own_kept (F := NoF) HL.out (HK3.out.alloc _) (fun _ _ z => z)) 1 rfl (Src.of_has (Has.new _ _ _) rfl) (by intro u hu;simp at hu;subst hu;rfl) (by unfold maxLen;omega) (by omega) ?_;intro A1 k1 w4 ho1 hg1 ha1;have hk4 : Kept (RowOf (.slice lA s.lg.length lc)) w w4 := Kept.grown (Kept.up (HK3.out.alloc _)) hg1 (fun k hk => .inl hk);have hb4 := HB.out.kept hk4 (own_ne HL.out HB.out (by decide));have c4 : w4.cell? ⟨b,3,none⟩ = some (.slice lA s.lg.length lc) := hb4.cell 3;have f4 := hb4.frozen 3;have HO1 := hZ0 (And.intro ho1 (And.intro ha1 (And.intro hk4 hb4)));clear ho1 hg1 ha1 hk4 hb4)
   have hb5 := HO1.out.2.2.2.put 3 (.slice A1 (s.lg.length + 1) k1)
   have hk5 : Kept (fun k => k = b) w4 (w4.setCell ⟨b,3,none⟩ (.slice A1 (s.lg.length + 1) k1)) := (Kept.refl (fun k => k = b) w4).put (.inl rfl)
   have ho5 := own_kept HO1.out.1 hk5 (fun g hg hF => own_ne HO1.out.1 HO1.out.2.2.2 (by decide) (by rw [hg,hF]))
   have hsrt := sortI_own (ss := s.lg ++ [id]) (n := s.lg.length + 1) (by simp) (by simpa [ints] using ho5) (by simp;omega)
   have HS5 := hZ0 hsrt;have HK5 := hZ0 (And.intro hk5 (And.intro hb5 ho5))
   clear hsrt hk5 hb5 ho5
   go_wp2_with fail
   refine HS5.out.mono ?_
   rintro e w6 ⟨rfl,ho6,hk6⟩
   have HK6 := hZ0 (And.intro hk6 ho6);clear hk6 ho6
   have HRB := hZ0 HB.out.lt
   go_wp2
   go_ret
   have hne : ¬ RowOf (.slice A1 (s.lg.length + 1) k1) b := own_ne HK5.out.2.2 HK5.out.2.1 (by decide)
   have hb6 := HK5.out.2.1.kept HK6.out.1 hne
   have hlen : (sortI (s.lg ++ [id])).length = s.lg.length + 1 := by rw [sortI_length];simp
   have hnew : ∀ k,RowOf (.slice A1 (s.lg.length + 1) k1) k -> RowOf (.slice lA s.lg.length lc) k \/ w.heap.size <= k := by
    intro k hk
    rcases HO1.out.2.1 with e | e
    ·exact .inl (e.symm.trans hk)
    ·have h9 := e.symm.trans hk
     injection h9 with h9
     have := HK3.out.size
     simp only [size_alloc] at h9
     exact .inr (by omega)
   refine .inr ⟨H1.out,rfl,A1,k1,?_⟩
   rw [HT.out,hlen]
   refine ⟨?_,HK6.out.2,hnew,?_⟩
   ·have e9 : scells { s with lg := sortI (s.lg ++ [id]) } mA mc A1 k1 pA pc true = (scells s mA mc lA lc pA pc true).setIfInBounds 3 (.slice A1 (s.lg.length + 1) k1) := by
     simp [scells,hlen]
    rw [e9]
    exact hb6
   ·refine Kept.trans (F := fun k => k = b \/ RowOf (.slice lA s.lg.length lc) k) (G := fun k => k = b \/ RowOf (.slice A1 (s.lg.length + 1) k1) k) (HO1.out.2.2.1.mono (fun k hk => .inr hk)) ((HK5.out.1.mono (fun k hk => .inl hk)).then (HK6.out.1.mono (fun k hk => .inr hk))) ?_
    rintro k (hk | hk)
    ·exact .inl (.inl hk)
    ·rcases hnew k hk with h | h
     ·exact .inl (.inr h)
     ·exact .inr h
  ·have hT : trustL s.lg id = s.lg := by unfold trustL;rw [h2,if_pos rfl]
   rw [h2] at hcon
   have HC := hZ0 hcon;have HT := hZ0 hT
   clear hcon hb hl h2 hT
   go_enter Tryz.func134,Tryz.ntmps134
   go_wp2_with fail
   refine (HM.out _ (Kept.refl _ _)).mono ?_
   rintro e w2 ⟨rfl,hk⟩
   have HK := hZ0 hk;clear hk c0 c1 c2
   obtain ⟨c0,c1,c2,c3,f3⟩ := HCE.out w2 HK.out
   go_wp2_with fail
   refine (HC.out _ HK.out).mono ?_
   rintro e w3 ⟨rfl,hk⟩
   have hk3 := HK.out.then hk
   clear hk c0 c1 c2 c3 f3
   have HK3 := hZ0 hk3;clear hk3
   go_wp2
   go_ret
   refine .inr ⟨H1.out,rfl,lA,lc,?_⟩
   rw [HT.out]
   exact ⟨HB.out.kept HK3.out (fun z => z),own_kept HL.out HK3.out (fun _ _ z => z),fun k hk => .inl hk,Kept.up HK3.out⟩
end Mst
end Go.Proofs.YtolkgbafebehfaaGreat

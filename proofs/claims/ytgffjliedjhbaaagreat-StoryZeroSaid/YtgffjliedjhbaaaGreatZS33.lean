/- Part 34 of what the proof needs. -/
import Derived.Test.YtgffjliedjhbaaaGreatZS00
import Derived.Test.YtgffjliedjhbaaaGreatZS32
import Derived.Test.YtgffjliedjhbaaaGreatChecked
import Derived.Shelf.Sort.Plain
import Derived.Shelf.Slices.In.SortNone
import Derived.Sort.OwnSorted
import Derived.Sort.KeysCollected
set_option linter.unusedSimpArgs false
set_option linter.unusedVariables false
set_option maxHeartbeats 32000000
set_option maxRecDepth 100000
namespace Go.Proofs.YtgffjliedjhbaaaGreat
open Go.RowKit
set_option maxRecDepth 100000
theorem Kept.up {F : Nat -> Prop} {a b : World} (h : Kept NoF a b) : Kept F a b := h.mono (fun _ z => z.elim)
namespace Mst
open Plan Vn
def nextE (s : StR) (x : NoteR) : Int := if x.ep <= s.ep then 18 else if (x.lg.any fun id => !anyId x.ms id) = true then 7 else if inB x.lg (headI x.ms) = false then 18 else 0
def NextPost (w : World) (b : Nat) (s : StR) (x : NoteR) (pA : Option Addr) (pc : Nat) (e : Ending) (w' : World) : Prop :=
 (nextE s x ≠ 0 /\ e = .returned (.int .i64 (nextE s x)) /\ Kept NoF w w') \/
 (nextE s x = 0 /\ e = .returned (.int .i64 0) /\ ∃ A c B d,Has w' b 261 (scells { s with ep := x.ep,ms := x.ms,fl := x.fl,lg := x.lg } A c B d pA pc true) /\
  NewSl 57 2 w.heap.size w' A x.ms.length c (mcells x.ms) /\ NewSl 3 1 w.heap.size w' B x.lg.length d (ints x.lg) /\ Kept (fun k => k = b) w w')
theorem next_any (w : World) (b : Nat) (s : StR) (mA : Option Addr) (mc : Nat) (lA : Option Addr) (lc : Nat) (pA : Option Addr) (pc : Nat) (x : NoteR) (hb : Has w b 261 (scells s mA mc lA lc pA pc true)) (h : NOk w x) :
  Calls Tryz.prog 146 #[.pointer (some ⟨b,0,none⟩),nagg x] w (NextPost w b s x pA pc) := by
 obtain ⟨E,hE⟩ : ∃ E,nextE s x = E := ⟨_,rfl⟩
 have hPE : ∀ w',E ≠ 0 -> Kept NoF w w' -> NextPost w b s x pA pc (.returned (.int .i64 E)) w' := fun w' h0 hk => .inl ⟨by rw [hE];exact h0,by rw [hE],hk⟩
 have hP0 : ∀ w' A c B d,E = 0 -> Has w' b 261 (scells { s with ep := x.ep,ms := x.ms,fl := x.fl,lg := x.lg } A c B d pA pc true) ->
   NewSl 57 2 w.heap.size w' A x.ms.length c (mcells x.ms) -> NewSl 3 1 w.heap.size w' B x.lg.length d (ints x.lg) -> Kept (fun k => k = b) w w' -> NextPost w b s x pA pc (.returned (.int .i64 0)) w' :=
  fun w' A c B d h0 h1 h2 h3 h4 => .inr ⟨by rw [hE,h0],rfl,A,c,B,d,h1,h2,h3,h4⟩
 unfold nextE at hE
 have hbn : b ≠ w.heap.size := by have := hb.lt;omega
 -- the world behind the box
 obtain ⟨W0,hW0⟩ : ∃ W0,w.alloc (.cells (ncell x).toArray 116) = W0 := ⟨_,rfl⟩
 have hk0 : Kept NoF w W0 := by rw [<- hW0];(repeat' (first | (with_reducible first | exact kR0 | apply kP0 | apply kN0 | apply kD0 | apply kA0) | (right;simp;done)))
 have hn0 : Has W0 w.heap.size 116 (ncell x).toArray := by rw [<- hW0];exact Has.new _ _ _
 have hb0 := hb.kept hk0 (fun z => z)
 have h0 := h.kept hk0
 have hstr := fun W (hW : Kept NoF W0 W) => hasInt_any W x.lA x.lc x.lg 197 (.pointer (some ⟨w.heap.size,0,none⟩)) (fun id => !anyId x.ms id) (fun args W => enters Tryz.func197 (by kernel_rfl) rfl args W) (h0.kept hW).l (by have := h.ll;omega)
  (fun W2 y hW2 _ => next1_any W2 x w.heap.size y ((hn0.kept hW (fun z => z)).kept hW2 (fun z => z)) ((h0.kept hW).kept hW2))
 have hhead := fun W (hW : Kept NoF W0 W) => phead_any W x.ep x.fl x.mA x.mc x.ms (h0.kept hW).m (by have := h.ml;omega)
 have hcon := fun W (hW : Kept NoF W0 W) => containsI_any W x.lA x.lc x.lg (headI x.ms) (h0.kept hW).l (by have := h.ll;omega)
 have hown := fun W (hW : Kept NoF W0 W) => own_any W x.ep x.fl x.mA x.mc x.ms (h0.kept hW).m (by have := h.ml;omega)
 have hcl := fun W (hW : Kept NoF W0 W) => cloneInt_any W x.lA x.lc x.lg (h0.kept hW).l (by have := h.ll;omega)
 obtain ⟨S7,hS7⟩ : ∃ S7,(x.lg.any fun id => !anyId x.ms id) = S7 := ⟨_,rfl⟩
 obtain ⟨S8,hS8⟩ : ∃ S8,inB x.lg (headI x.ms) = S8 := ⟨_,rfl⟩
 obtain ⟨HI,hHI⟩ : ∃ HI,headI x.ms = HI := ⟨_,rfl⟩
 rw [hS7,hS8] at hE
 rw [hS7] at hstr
 rw [hS8] at hcon
 rw [hHI] at hcon hhead
 clear h h0 hS7 hS8 hHI
 obtain ⟨k,n,at2,ep,mA2,mc2,ms,fl,lA2,lc2,lg,oA,oc,⟨bcl,breq,ops⟩,ts,⟨p1,p2,p3⟩,⟨s1,s2,s3,s4⟩⟩ := x
 simp only [ncell] at hP0 hPE hE hn0 hstr hhead hcon hown hcl
 have hcells : ∀ W,Kept NoF W0 W -> W.cell? ⟨w.heap.size,3,none⟩ = some (.int .i64 ep) /\ W.cell? ⟨w.heap.size,4,none⟩ = some (.slice mA2 ms.length mc2) /\ W.cell? ⟨w.heap.size,5,none⟩ = some (.int .u64 fl) /\ W.cell? ⟨w.heap.size,6,none⟩ = some (.slice lA2 lg.length lc2) := fun W hW => by
  have g := hn0.kept hW (fun z => z)
  exact ⟨g.cell 3,g.cell 4,g.cell 5,g.cell 6⟩
 have hfr : ∀ W,Kept NoF W0 W -> Has W b 261 (scells s mA mc lA lc pA pc true) := fun W hW => hb0.kept hW (fun z => z)
 have hcells2 : ∀ W,Kept (fun k => k = b) W0 W -> W.cell? ⟨w.heap.size,3,none⟩ = some (.int .i64 ep) /\ W.cell? ⟨w.heap.size,4,none⟩ = some (.slice mA2 ms.length mc2) /\ W.cell? ⟨w.heap.size,5,none⟩ = some (.int .u64 fl) /\ W.cell? ⟨w.heap.size,6,none⟩ = some (.slice lA2 lg.length lc2) := fun W hW => by
  have g := hn0.kept hW (fun z => hbn z.symm)
  exact ⟨g.cell 3,g.cell 4,g.cell 5,g.cell 6⟩
 have HCE2 := hZ0 hcells2;clear hcells2
 obtain ⟨c3,c4,c5,c6⟩ := hcells W0 (Kept.refl _ _)
 have cb := hb0.cell 0
 simp only [List.getElem?_toArray,List.getElem?_cons_zero,List.getElem?_cons_succ] at cb
 have HPE := hZ0 hPE;have HP0 := hZ0 hP0;have HE := hZ0 hE;have HST := hZ0 hstr;have HHD := hZ0 hhead;have HCON := hZ0 hcon;have HOWN := hZ0 hown;have HCL := hZ0 hcl;have HCE := hZ0 hcells;have HFR := hZ0 hfr
 have HK0 := hZ0 hk0
 have HBN := hZ0 (And.intro hbn hb.lt)
 clear hPE hP0 hE hstr hhead hcon hown hcl hcells hfr hb hb0 hn0 hk0 hbn
 go_enter Tryz.func146,Tryz.ntmps146
 go_wp2_with fail
 clear hW0
 by_cases h1 : ep <= s.ep
 ·have he := HE.out
  rw [if_pos h1] at he
  subst he
  go_quiet (fail)
  go_wp2
  go_ret
  exact HPE.out _ (by decide) (HK0.out.then (by (repeat' (first | (with_reducible first | exact kR0 | apply kP0 | apply kN0 | apply kD0 | apply kA0) | (right;simp;done)))))
 ·have he := HE.out
  rw [if_neg h1] at he
  clear HE
  have HE := hZ0 he;clear he
  go_quiet (fail)
  have q := HCE.out (W0.drewN nq) (by (repeat' (first | (with_reducible first | exact kR0 | apply kP0 | apply kN0 | apply kD0 | apply kA0) | (right;simp;done))))
  obtain ⟨q3,q4,q5,q6⟩ := q
  clear c3 c4 c5 c6 cb
  go_wp2_with fail
  refine (HST.out _ (by (repeat' (first | (with_reducible first | exact kR0 | apply kP0 | apply kN0 | apply kD0 | apply kA0) | (right;simp;done))))).mono ?_
  rintro e w2 ⟨rfl,hk⟩
  have hk2 := Kept.then (F := NoF) (a := W0) (by (repeat' (first | (with_reducible first | exact kR0 | apply kP0 | apply kN0 | apply kD0 | apply kA0) | (right;simp;done)))) hk
  have HK2 := hZ0 hk2;clear hk hk2 q3 q4 q5 q6
  cases S7
  ·have he := HE.out
   rw [if_neg (by simp)] at he
   clear HE
   have HE := hZ0 he;clear he
   obtain ⟨q3,q4,q5,q6⟩ := HCE.out w2 HK2.out
   go_wp2_with fail
   have HS := hZ0 (Kept.refl NoF w2)
   go_region_held3 (fun W => W.cell? ⟨w.heap.size,3,none⟩ = some (.int .i64 ep) /\ W.cell? ⟨w.heap.size,4,none⟩ = some (.slice mA2 ms.length mc2) /\ W.cell? ⟨w.heap.size,5,none⟩ = some (.int .u64 fl) /\ W.cell? ⟨w.heap.size,6,none⟩ = some (.slice lA2 lg.length lc2))
    (first | with_reducible exact HCE.out _ (HK2.out.then HS.out) | exact HCE.out _ (HK2.out.then HS.out.drew) | (simp [go_sem,q3,q4,q5,q6];done))
    (first
     | (go_at_call 200;((with_reducible refine (HHD.out _ ?_).mono ?_);exact HK2.out.then (by (repeat' (first | (with_reducible first | exact kR0 | apply kP0 | apply kN0 | apply kD0 | apply kA0) | (exact HS.out) | (right;simp;done))));rintro e w5 ⟨rfl,hk0⟩;have hk := Kept.then (F := NoF) (a := w2) (by (repeat' (first | (with_reducible first | exact kR0 | apply kP0 | apply kN0 | apply kD0 | apply kA0) | (exact HS.out) | (right;simp;done)))) hk0;clear HS hk0;have HS := hZ0 hk;clear hk))
     | (go_at_call 110;((with_reducible refine (HCON.out _ ?_).mono ?_);exact HK2.out.then (by (repeat' (first | (with_reducible first | exact kR0 | apply kP0 | apply kN0 | apply kD0 | apply kA0) | (exact HS.out) | (right;simp;done))));rintro e w5 ⟨rfl,hk0⟩;have hk := Kept.then (F := NoF) (a := w2) (by (repeat' (first | (with_reducible first | exact kR0 | apply kP0 | apply kN0 | apply kD0 | apply kA0) | (exact HS.out) | (right;simp;done)))) hk0;clear HS hk0;have HS := hZ0 hk;clear hk)))
   have HK5 := hZ0 (HK2.out.then HS.out);clear HS HK2 q3 q4 q5 q6
   obtain ⟨q3,q4,q5,q6⟩ := HCE.out w5 HK5.out
   cases S8
   ·have he := HE.out
    rw [if_pos rfl] at he
    subst he
    go_wp2
    go_ret
    exact HPE.out _ (by decide) (HK0.out.then HK5.out)
   ·have he := HE.out
    rw [if_neg (by simp)] at he
    clear HE
    have HE := hZ0 he;clear he
    have hst : ∀ W,Kept NoF w5 W -> W.cell? ⟨b,0,none⟩ = some (.int .i64 s.ep) /\ W.cell? ⟨b,1,none⟩ = some (.slice mA s.ms.length mc) /\ W.cell? ⟨b,2,none⟩ = some (.int .u64 s.fl) /\ W.cell? ⟨b,3,none⟩ = some (.slice lA s.lg.length lc) /\ W.frozen? ⟨b,0,none⟩ = false /\ W.frozen? ⟨b,1,none⟩ = false /\ W.frozen? ⟨b,2,none⟩ = false /\ W.frozen? ⟨b,3,none⟩ = false := fun W hW => by
     have g := HFR.out W (HK5.out.then hW)
     exact ⟨g.cell 0,g.cell 1,g.cell 2,g.cell 3,g.frozen 0,g.frozen 1,g.frozen 2,g.frozen 3⟩
    have HST2 := hZ0 hst;clear hst
    go_wp2_with fail
    have HS := hZ0 (Kept.refl NoF w5)
    go_region_held3 (fun W => W.cell? ⟨w.heap.size,3,none⟩ = some (.int .i64 ep) /\ W.cell? ⟨w.heap.size,4,none⟩ = some (.slice mA2 ms.length mc2) /\ W.cell? ⟨w.heap.size,5,none⟩ = some (.int .u64 fl) /\ W.cell? ⟨w.heap.size,6,none⟩ = some (.slice lA2 lg.length lc2))
     (first | with_reducible exact HCE.out _ (HK5.out.then HS.out) | (refine HCE2.out _ ?_;(repeat' (first | (with_reducible first | exact kR0 | apply kP0 | apply kN0 | apply kD0 | apply kA0) | (first | exact Or.inl (Or.inl rfl) | exact Or.inl rfl | with_reducible exact Kept.up (HK5.out.then HS.out)) | (right;simp;done)));done) | exact HCE.out _ (HK5.out.then HS.out.drew) | (simp [go_sem,q3,q4,q5,q6];done))
     (first
      | (go_at_call 163;((with_reducible refine (HOWN.out _ ?_).mono ?_);exact HK5.out.then (by (repeat' (first | (with_reducible first | exact kR0 | apply kP0 | apply kN0 | apply kD0 | apply kA0) | (exact HS.out) | (right;simp;done))));rintro e w6 ⟨A1,c1,rfl,hn1,hk0⟩;have hk := Kept.then (F := NoF) (a := w5) (by (repeat' (first | (with_reducible first | exact kR0 | apply kP0 | apply kN0 | apply kD0 | apply kA0) | (exact HS.out) | (right;simp;done)))) hk0;have HN1 := hZ0 (And.intro hn1 HS.out.size);obtain ⟨k0,k1,k2,k3,f0,f1,f2,f3⟩ := HST2.out _ hk;clear HS hn1;have HQ1 := hZ0 hk0;clear hk0;have HS := hZ0 hk;clear hk))
      | (go_at_call 164;((with_reducible refine (HCL.out _ ?_).mono ?_);exact HK5.out.then (by (repeat' (first | (with_reducible first | exact kR0 | apply kP0 | apply kN0 | apply kD0 | apply kA0) | (exact HS.out) | (right;simp;done))));rintro e w7 ⟨A2,c2,rfl,hn2,hk0⟩;have hk := Kept.then (F := NoF) (a := w5) (by (repeat' (first | (with_reducible first | exact kR0 | apply kP0 | apply kN0 | apply kD0 | apply kA0) | (exact HS.out) | (right;simp;done)))) hk0;have HN2 := hZ0 (And.intro hn2 HS.out.size);obtain ⟨k0,k1,k2,k3,f0,f1,f2,f3⟩ := HST2.out _ hk;clear HS hn2;have HQ2 := hZ0 hk0;clear hk0;have HS := hZ0 hk;clear hk)))
    have hb7 := HFR.out w7 (HK5.out.then HS.out)
    have ho1 := own_kept (F := NoF) HN1.out.1.1 (Kept.then (F := NoF) (by (repeat' (first | (with_reducible first | exact kR0 | apply kP0 | apply kN0 | apply kD0 | apply kA0) | (right;simp;done)))) HQ2.out) (fun _ _ z => z)
    have ho2 := HN2.out.1.1
    have hne1 := own_ne ho1 hb7 (by decide)
    have hne2 := own_ne ho2 hb7 (by decide)
    have hz1 := HN1.out.1.2
    have hz2 := HN2.out.1.2
    have hs1 := HN1.out.2
    have hs2 := HN2.out.2
    have hs0 := (HK0.out.then HK5.out).size
    have hk7 := HK0.out.then (HK5.out.then HS.out)
    have HX := hZ0 (And.intro ho1 (And.intro ho2 (And.intro hne1 (And.intro hne2 (And.intro hz1 hz2)))))
    have HZ := hZ0 (And.intro hs1 (And.intro hs2 hs0))
    have HB7 := hZ0 hb7;have HK7 := hZ0 hk7
    have HE0 := hZ0 HE.out
    clear ho1 ho2 hne1 hne2 hz1 hz2 hs1 hs2 hs0 hb7 hk7 q3 q4 q5 q6 k0 k1 k2 k3 f0 f1 f2 f3 HN1 HN2 HQ1 HQ2 HE
    go_wp2
    go_ret
    obtain ⟨ho1,ho2,hne1,hne2,hz1,hz2⟩ := HX.out
    obtain ⟨hs1,hs2,hs0⟩ := HZ.out
    have hkf : Kept (fun k => k = b) w7 ((((w7.setCell ⟨b,0,none⟩ (.int .i64 ep)).setCell ⟨b,1,none⟩ (.slice A1 ms.length c1)).setCell ⟨b,2,none⟩ (.int .u64 fl)).setCell ⟨b,3,none⟩ (.slice A2 lg.length c2)) :=
     ((((Kept.refl (fun k => k = b) w7).put (.inl rfl)).put (.inl rfl)).put (.inl rfl)).put (.inl rfl)
    refine HP0.out _ A1 c1 A2 c2 HE0.out.symm ?_ ⟨own_kept ho1 hkf (fun g hg hF => hne1 (by rw [hg,hF])),fun g hg => ?_⟩ ⟨own_kept ho2 hkf (fun g hg hF => hne2 (by rw [hg,hF])),fun g hg => ?_⟩ ((Kept.up HK7.out).then hkf)
    ·((repeat (first | with_reducible exact HB7.out | with_reducible apply Has.put_of | with_reducible apply Has.past | with_reducible apply Has.drewN | with_reducible apply Has.drew | with_reducible apply Has.alloc)) <;> first | omega | rfl)
    ·exact Nat.le_trans hs0 (Nat.le_trans hs1 (hz1 g hg))
    ·exact Nat.le_trans hs0 (Nat.le_trans hs2 (hz2 g hg))
  ·have he := HE.out
   rw [if_pos rfl] at he
   subst he
   go_wp2
   go_ret
   exact HPE.out _ (by decide) (HK0.out.then HK2.out)
end Mst
end Go.Proofs.YtgffjliedjhbaaaGreat
namespace Go.Proofs.YtgffjliedjhbaaaGreat
open Go.Shelf Go.Sort Go.RowKit
set_option maxRecDepth 100000
namespace Srt
def lays189_ren : Go.Shelf.Ren := ⟨fun | 189 => 90 | 125 => 160 | 257 => 159 | 128 => 219 | 129 => 220 | 294 => 210 | 295 => 211 | 296 => 212 | 297 => 213 | 298 => 214 | 299 => 215 | 216 => 216 | 300 => 217 | 301 => 218 | 328 => 245 | 329 => 246 | 330 => 247 | 331 => 248 | 332 => 249 | 215 => 250 | 343 => 260 | n => n,fun | 28 => 110 | 3 => 3 | 46 => 284 | 0 => 0 | 51 => 345 | 53 => 30 | 4 => 4 | 183 => 338 | 182 => 337 | 131 => 206 | 5 => 5 | 9 => 9 | 218 => 372 | 222 => 375 | 228 => 383 | 229 => 251 | n => n,fun | n => n⟩
theorem lays189 : Go.Proofs.Lays.n189 Tryz.prog lays189_ren := {
 mixed := by kernel_rfl
 f125 := Tryz.func160.trans (congrArg some (by kernel_rfl))
 f128 := Tryz.func219.trans (congrArg some (by kernel_rfl))
 f129 := Tryz.func220.trans (congrArg some (by kernel_rfl))
 f189 := Tryz.func90.trans (congrArg some (by kernel_rfl))
 f215 := Tryz.func250.trans (congrArg some (by kernel_rfl))
 f216 := Tryz.func216.trans (congrArg some (by kernel_rfl))
 f257 := Tryz.func159.trans (congrArg some (by kernel_rfl))
 f294 := Tryz.func210.trans (congrArg some (by kernel_rfl))
 f295 := Tryz.func211.trans (congrArg some (by kernel_rfl))
 f296 := Tryz.func212.trans (congrArg some (by kernel_rfl))
 f297 := Tryz.func213.trans (congrArg some (by kernel_rfl))
 f298 := Tryz.func214.trans (congrArg some (by kernel_rfl))
 f299 := Tryz.func215.trans (congrArg some (by kernel_rfl))
 f300 := Tryz.func217.trans (congrArg some (by kernel_rfl))
 f301 := Tryz.func218.trans (congrArg some (by kernel_rfl))
 f328 := Tryz.func245.trans (congrArg some (by kernel_rfl))
 f329 := Tryz.func246.trans (congrArg some (by kernel_rfl))
 f330 := Tryz.func247.trans (congrArg some (by kernel_rfl))
 f331 := Tryz.func248.trans (congrArg some (by kernel_rfl))
 f332 := Tryz.func249.trans (congrArg some (by kernel_rfl))
 f343 := Tryz.func260.trans (congrArg some (by kernel_rfl))
 t0 := Tryz.underlying0
 a0 := Tryz.isAgg0
 z0 := Tryz.sizeOf0
 v0 := Tryz.zeroValue0
 t3 := Tryz.underlying3
 a3 := Tryz.isAgg3
 z3 := Tryz.sizeOf3
 v3 := Tryz.zeroValue3
 t4 := Tryz.underlying4
 a4 := Tryz.isAgg4
 z4 := Tryz.sizeOf4
 v4 := Tryz.zeroValue4
 t5 := Tryz.underlying5
 a5 := Tryz.isAgg5
 z5 := Tryz.sizeOf5
 v5 := Tryz.zeroValue5
 t9 := Tryz.underlying9
 a9 := Tryz.isAgg9
 z9 := Tryz.sizeOf9
 v9 := Tryz.zeroValue9
 t28 := Tryz.underlying110
 a28 := Tryz.isAgg110
 z28 := Tryz.sizeOf110
 v28 := Tryz.zeroValue110
 t46 := Tryz.underlying284
 a46 := Tryz.isAgg284
 z46 := Tryz.sizeOf284
 v46 := Tryz.zeroValue284
 t51 := Tryz.underlying345
 a51 := Tryz.isAgg345
 z51 := Tryz.sizeOf345
 v51 := Tryz.zeroValue345
 t53 := Tryz.underlying30
 a53 := Tryz.isAgg30
 z53 := Tryz.sizeOf30
 v53 := Tryz.zeroValue30
 t131 := Tryz.underlying206
 a131 := Tryz.isAgg206
 z131 := Tryz.sizeOf206
 v131 := Tryz.zeroValue206
 t182 := Tryz.underlying337
 a182 := Tryz.isAgg337
 z182 := Tryz.sizeOf337
 v182 := Tryz.zeroValue337
 t183 := Tryz.underlying338
 a183 := Tryz.isAgg338
 z183 := Tryz.sizeOf338
 v183 := Tryz.zeroValue338
 t218 := Tryz.underlying372
 a218 := Tryz.isAgg372
 z218 := Tryz.sizeOf372
 v218 := Tryz.zeroValue372
 t222 := Tryz.underlying375
 a222 := Tryz.isAgg375
 z222 := Tryz.sizeOf375
 v222 := Tryz.zeroValue375
 t228 := Tryz.underlying383
 a228 := Tryz.isAgg383
 z228 := Tryz.sizeOf383
 v228 := Tryz.zeroValue383
 t229 := Tryz.underlying251
 a229 := Tryz.isAgg251
 z229 := Tryz.sizeOf251
 v229 := Tryz.zeroValue251 }
theorem slices_Sort_int (blk off cap : Nat) (zs : List Int) (w : World) (hH : Holds (Value.int .i64) w blk off zs.toArray) (hblk : blk < w.heap.size) (hsz : zs.length < 4611686018427387904) :
  Calls Tryz.prog 90 #[.slice (some ⟨blk,off,none⟩) zs.length cap] w fun e w' =>
   e = .returned (.tuple #[]) /\ ∃ n os,w' = grow (putRow (Value.int .i64) (Sort.ahead w n) blk off (zs.mergeSort fun x y => decide (x <= y)).toArray) os := Any.slices_Sort_int lays189 blk off cap zs w hH hblk hsz
theorem slices_Sort_int_none (p : Option Addr) (cap : Nat) (w : World) :
  Calls Tryz.prog 90 #[.slice p 0 cap] w fun e w' => e = .returned (.tuple #[]) /\ w' = w := Any.slices_Sort_int_none lays189 p cap w
end Srt
end Go.Proofs.YtgffjliedjhbaaaGreat

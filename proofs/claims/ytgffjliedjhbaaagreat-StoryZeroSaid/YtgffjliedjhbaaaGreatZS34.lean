/- Part 35 of what the proof needs. -/
import Derived.Test.YtgffjliedjhbaaaGreatZS33
import Derived.Sort.OwnSortedInts
set_option linter.unusedSimpArgs false
set_option linter.unusedVariables false
set_option maxHeartbeats 32000000
set_option maxRecDepth 100000
namespace Go.Proofs.YtgffjliedjhbaaaGreat
open Go.RowKit
set_option maxRecDepth 100000
namespace Mst
open Plan Vn Go.Sort
abbrev RowOf (v : Value) (k : Nat) : Prop := v.ownBlock = some k
def sortI (l : List Int) : List Int := l.mergeSort fun x y => decide (x <= y)
theorem sortI_length (l : List Int) : (sortI l).length = l.length := by simp [sortI]
theorem sortI_own {w : World} {B : Nat} {A : Option Addr} {n c : Nat} {ss : List Int} (hn : n = ss.length) (h : w.ownsRow B 3 1 (.slice A n c) n (ints ss)) (hsz : ss.length < 4611686018427387904) :
  Calls Tryz.prog 90 #[.slice A n c] w fun e w' => e = .returned (.tuple #[]) /\ w'.ownsRow B 3 1 (.slice A n c) n (ints (sortI ss)) /\ Kept (RowOf (.slice A n c)) w w' := by
 subst hn
 have h' := h
 rcases h.2 with ⟨hv,h0⟩ | ⟨g,cap,cur,hv,hb',hg,h1,h2,h3,h4⟩
 ·have hs : ss = [] := List.eq_nil_of_length_eq_zero h0
  subst hs
  refine (Srt.slices_Sort_int_none A c w).mono ?_
  rintro e w' ⟨rfl,rfl⟩
  exact ⟨rfl,by simpa [sortI] using h',Kept.refl _ _⟩
 ·injection hv with e1 e2 e3
  subst e1
  subst e3
  refine (Srt.slices_Sort_int g 0 c ss w (holds_of_blockI hg (by simpa using h4)) (Array.getElem?_eq_some_iff.1 hg).1 hsz).mono ?_
  rintro e w' ⟨rfl,n,os,rfl⟩
  exact ⟨rfl,ownsRow_sortedI (by simp) hb' hg h1 h2 h3,(Kept.refl _ _).grownBy (grownBy_sortedI _) (fun k hk => .inl hk)⟩
def trustL (l : List Int) (id : Int) : List Int := if inB l id = true then l else sortI (l ++ [id])
def TrustPost (w : World) (b : Nat) (s : StR) (mA : Option Addr) (mc : Nat) (lA : Option Addr) (lc : Nat) (pA : Option Addr) (pc : Nat) (id : Int) (e : Ending) (w' : World) : Prop :=
 (anyId s.ms id = false /\ e = .returned (.int .i64 7) /\ Kept NoF w w') \/
 (anyId s.ms id = true /\ e = .returned (.int .i64 0) /\ ∃ B d,Has w' b 261 (scells { s with lg := trustL s.lg id } mA mc B d pA pc true) /\ w'.ownsRow 0 3 1 (.slice B (trustL s.lg id).length d) (trustL s.lg id).length (ints (trustL s.lg id)) /\
  (∀ k,RowOf (.slice B (trustL s.lg id).length d) k -> RowOf (.slice lA s.lg.length lc) k \/ w.heap.size <= k) /\ Kept (fun k => k = b \/ RowOf (.slice lA s.lg.length lc) k) w w')
theorem trust_any (w : World) (b : Nat) (s : StR) (mA : Option Addr) (mc : Nat) (lA : Option Addr) (lc : Nat) (pA : Option Addr) (pc : Nat) (id : Int) (hb : Has w b 261 (scells s mA mc lA lc pA pc true))
  (hm : Src w 2 mA s.ms.length (mcells s.ms)) (hml : s.ms.length <= 1000) (hl : w.ownsRow 0 3 1 (.slice lA s.lg.length lc) s.lg.length (ints s.lg)) (hll : s.lg.length <= 1000) :
  Calls Tryz.prog 147 #[.pointer (some ⟨b,0,none⟩),.int .i64 id] w (TrustPost w b s mA mc lA lc pA pc id) := by
 have hmem := fun W (hW : Kept NoF w W) => member_any W s.ep s.fl mA mc s.ms id (hm.kept hW (fun _ _ z => z)) (by omega)
 have hcon := fun W (hW : Kept NoF w W) => containsI_any W lA lc s.lg id ((Src.of_own hl).kept hW (fun _ _ z => z)) (by omega)
 have hce : ∀ W,Kept NoF w W -> W.cell? ⟨b,0,none⟩ = some (.int .i64 s.ep) /\ W.cell? ⟨b,1,none⟩ = some (.slice mA s.ms.length mc) /\ W.cell? ⟨b,2,none⟩ = some (.int .u64 s.fl) /\ W.cell? ⟨b,3,none⟩ = some (.slice lA s.lg.length lc) /\ W.frozen? ⟨b,3,none⟩ = false := fun W hW => by
  have g := hb.kept hW (fun z => z)
  exact ⟨g.cell 0,g.cell 1,g.cell 2,g.cell 3,g.frozen 3⟩
 obtain ⟨c0,c1,c2,c3,f3⟩ := hce w (Kept.refl _ _)
 have HM := hZ0 hmem;have HCON := hZ0 hcon;have HCE := hZ0 hce;have HB := hZ0 hb;have HL := hZ0 hl
 have HP : Hid _ := hZ0 (show ∀ e w',TrustPost w b s mA mc lA lc pA pc id e w' -> TrustPost w b s mA mc lA lc pA pc id e w' from fun _ _ h => h)
 cases h1 : anyId s.ms id
 ·have H1 := hZ0 h1
  rw [h1] at hmem
  have HM := hZ0 hmem
  clear hmem hcon hce hb hl hm h1 c3 f3
  go_enter Tryz.func147,Tryz.ntmps147
  go_wp2_with fail
  refine (HM.out _ (Kept.refl _ _)).mono ?_
  rintro e w2 ⟨rfl,hk⟩
  have HK := hZ0 hk;clear hk
  go_wp2
  go_ret
  exact .inl ⟨H1.out,rfl,HK.out⟩
 ·have H1 := hZ0 h1
  rw [h1] at hmem
  have HM := hZ0 hmem
  clear hmem hce hm h1 c3 f3
  cases h2 : inB s.lg id
  ·have hT : trustL s.lg id = sortI (s.lg ++ [id]) := by unfold trustL;rw [h2,if_neg (by simp)]
   rw [h2] at hcon
   have HC := hZ0 hcon;have HT := hZ0 hT
   clear hcon hb hl h2 hT
   go_enter Tryz.func147,Tryz.ntmps147
   go_wp2_with fail
   refine (HM.out _ (Kept.refl _ _)).mono ?_
   rintro e w2 ⟨rfl,hk⟩
   have HK := hZ0 hk;clear hk c0 c1 c2
   obtain ⟨c0,c1,c2,c3,f3⟩ := HCE.out w2 HK.out
   go_wp2_with fail
   refine (HC.out _ HK.out).mono ?_
   rintro e w3 ⟨rfl,hk⟩
   have hk3 := HK.out.then hk
   clear hk c0 c1 c2 c3 f3
   have HK3 := hZ0 hk3;clear hk3
   obtain ⟨c0,c1,c2,c3,f3⟩ := HCE.out w3 HK3.out
   go_wp2_with (at_builtin;refine list_append_src elemInt (.tmp 23) (.tmp 25) rfl rfl (Value.slice lA s.lg.length lc) rfl (own_kept (F := NoF) HL.out (HK3.out.alloc _) (fun _ _ z => z)) 1 rfl (Src.of_has (Has.new _ _ _) rfl) (by intro u hu;simp at hu;subst hu;rfl) (by unfold maxLen;omega) (by omega) ?_;intro A1 k1 w4 ho1 hg1 ha1;have hk4 : Kept (RowOf (.slice lA s.lg.length lc)) w w4 := Kept.grown (Kept.up (HK3.out.alloc _)) hg1 (fun k hk => .inl hk);have hb4 := HB.out.kept hk4 (own_ne HL.out HB.out (by decide));have c4 : w4.cell? ⟨b,3,none⟩ = some (.slice lA s.lg.length lc) := hb4.cell 3;have f4 := hb4.frozen 3;have HO1 := hZ0 (And.intro ho1 (And.intro ha1 (And.intro hk4 hb4)));clear ho1 hg1 ha1 hk4 hb4)
   have hb5 := HO1.out.2.2.2.put 3 (.slice A1 (s.lg.length + 1) k1)
   have hk5 : Kept (fun k => k = b) w4 (w4.setCell ⟨b,3,none⟩ (.slice A1 (s.lg.length + 1) k1)) := (Kept.refl (fun k => k = b) w4).put (.inl rfl)
   have ho5 := own_kept HO1.out.1 hk5 (fun g hg hF => own_ne HO1.out.1 HO1.out.2.2.2 (by decide) (by rw [hg,hF]))
   have hsrt := sortI_own (ss := s.lg ++ [id]) (n := s.lg.length + 1) (by simp) (by simpa [ints] using ho5) (by simp;omega)
   have HS5 := hZ0 hsrt;have HK5 := hZ0 (And.intro hk5 (And.intro hb5 ho5))
   clear hsrt hk5 hb5 ho5
   go_wp2_with fail
   refine HS5.out.mono ?_
   rintro e w6 ⟨rfl,ho6,hk6⟩
   have HK6 := hZ0 (And.intro hk6 ho6);clear hk6 ho6
   have HRB := hZ0 HB.out.lt
   go_wp2
   go_ret
   have hne : ¬ RowOf (.slice A1 (s.lg.length + 1) k1) b := own_ne HK5.out.2.2 HK5.out.2.1 (by decide)
   have hb6 := HK5.out.2.1.kept HK6.out.1 hne
   have hlen : (sortI (s.lg ++ [id])).length = s.lg.length + 1 := by rw [sortI_length];simp
   have hnew : ∀ k,RowOf (.slice A1 (s.lg.length + 1) k1) k -> RowOf (.slice lA s.lg.length lc) k \/ w.heap.size <= k := by
    intro k hk
    rcases HO1.out.2.1 with e | e
    ·exact .inl (e.symm.trans hk)
    ·have h9 := e.symm.trans hk
     injection h9 with h9
     have := HK3.out.size
     simp only [size_alloc] at h9
     exact .inr (by omega)
   refine .inr ⟨H1.out,rfl,A1,k1,?_⟩
   rw [HT.out,hlen]
   refine ⟨?_,HK6.out.2,hnew,?_⟩
   ·have e9 : scells { s with lg := sortI (s.lg ++ [id]) } mA mc A1 k1 pA pc true = (scells s mA mc lA lc pA pc true).setIfInBounds 3 (.slice A1 (s.lg.length + 1) k1) := by
     simp [scells,hlen]
    rw [e9]
    exact hb6
   ·refine Kept.trans (F := fun k => k = b \/ RowOf (.slice lA s.lg.length lc) k) (G := fun k => k = b \/ RowOf (.slice A1 (s.lg.length + 1) k1) k) (HO1.out.2.2.1.mono (fun k hk => .inr hk)) ((HK5.out.1.mono (fun k hk => .inl hk)).then (HK6.out.1.mono (fun k hk => .inr hk))) ?_
    rintro k (hk | hk)
    ·exact .inl (.inl hk)
    ·rcases hnew k hk with h | h
     ·exact .inl (.inr h)
     ·exact .inr h
  ·have hT : trustL s.lg id = s.lg := by unfold trustL;rw [h2,if_pos rfl]
   rw [h2] at hcon
   have HC := hZ0 hcon;have HT := hZ0 hT
   clear hcon hb hl h2 hT
   go_enter Tryz.func147,Tryz.ntmps147
   go_wp2_with fail
   refine (HM.out _ (Kept.refl _ _)).mono ?_
   rintro e w2 ⟨rfl,hk⟩
   have HK := hZ0 hk;clear hk c0 c1 c2
   obtain ⟨c0,c1,c2,c3,f3⟩ := HCE.out w2 HK.out
   go_wp2_with fail
   refine (HC.out _ HK.out).mono ?_
   rintro e w3 ⟨rfl,hk⟩
   have hk3 := HK.out.then hk
   clear hk c0 c1 c2 c3 f3
   have HK3 := hZ0 hk3;clear hk3
   go_wp2
   go_ret
   refine .inr ⟨H1.out,rfl,lA,lc,?_⟩
   rw [HT.out]
   exact ⟨HB.out.kept HK3.out (fun z => z),own_kept HL.out HK3.out (fun _ _ z => z),fun k hk => .inl hk,Kept.up HK3.out⟩
end Mst
end Go.Proofs.YtgffjliedjhbaaaGreat

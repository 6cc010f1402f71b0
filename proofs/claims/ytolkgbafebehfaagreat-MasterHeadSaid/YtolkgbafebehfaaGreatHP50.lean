/- Part 51 of what the proof needs. -/
import Derived.Test.YtolkgbafebehfaaGreatHP49
import Derived.Deep.DeepCutAuto
set_option linter.unusedSimpArgs false
set_option linter.unusedVariables false
set_option maxHeartbeats 32000000
set_option maxRecDepth 100000
namespace Go.Proofs.YtolkgbafebehfaaGreat
open Go.RowKit
set_option maxRecDepth 100000
namespace Mas
open Plan Vn Mst Wat IM Nte Msg
section
variable {w w' : World} {X X0 : MX} {M M0 : MR} {c k : Nat}
theorem next_fin1 {w2 w5 : World} {dep dfl dE : Int} {dl : List Mem} {dt : List Int} {A5 B5 : Option Addr} {n5 c5 m5 d5 : Nat} (hr : NewRow w2.heap.size w5 A5 n5 c5 dl) (ht : NewInts w2.heap.size w5 B5 m5 d5 dt) (hk : Kept NoF w2 w5) :
  ∃ cb A n c B m d,Value.pointer (some ⟨w5.heap.size,0,none⟩) = .pointer (some ⟨cb,0,none⟩) /\ Value.slice B5 m5 d5 = .slice B m d /\ Value.int .i64 dE = .int .i64 dE /\ Has (w5.alloc (.cells #[.int .i64 dep,.slice A5 n5 c5,.int .u64 dfl] 25)) cb 25 #[.int .i64 dep,.slice A n c,.int .u64 dfl] /\ NewRow w2.heap.size (w5.alloc (.cells #[.int .i64 dep,.slice A5 n5 c5,.int .u64 dfl] 25)) A n c dl /\ NewInts w2.heap.size (w5.alloc (.cells #[.int .i64 dep,.slice A5 n5 c5,.int .u64 dfl] 25)) B m d dt /\ Kept NoF w2 (w5.alloc (.cells #[.int .i64 dep,.slice A5 n5 c5,.int .u64 dfl] 25)) /\ w2.heap.size <= cb :=
 ⟨_,A5,n5,c5,B5,m5,d5,rfl,rfl,rfl,Has.new _ _ _,hr.kept (by (repeat' (first | (with_reducible first | exact kR0 | apply kP0 | apply kN0 | apply kD0 | apply kA0) | (right;simp;done)))),ht.kept (by (repeat' (first | (with_reducible first | exact kR0 | apply kP0 | apply kN0 | apply kD0 | apply kA0) | (right;simp;done)))),by (repeat' (first | (with_reducible first | exact kR0 | apply kP0 | apply kN0 | apply kD0 | apply kA0) | (exact hk) | (right;simp;done))),hk.size⟩
theorem next_fin2 {w2 w5 : World} {b : Nat} {dep dfl dE : Int} {dl : List Mem} {dt : List Int} {A5 B5 : Option Addr} {n5 c5 m5 d5 : Nat} (hz : Has w5 b 25 #[.int .i64 0,.slice none 0 0,.int .u64 0]) (hb : w2.heap.size <= b) (hr : NewRow w2.heap.size w5 A5 n5 c5 dl) (ht : NewInts w2.heap.size w5 B5 m5 d5 dt) (hk : Kept NoF w2 w5) :
  ∃ cb A n c B m d,Value.pointer (some ⟨b,0,none⟩) = .pointer (some ⟨cb,0,none⟩) /\ Value.slice B5 m5 d5 = .slice B m d /\ Value.int .i64 dE = .int .i64 dE /\ Has (((w5.setCell ⟨b,0,none⟩ (.int .i64 dep)).setCell ⟨b,1,none⟩ (.slice A5 n5 c5)).setCell ⟨b,2,none⟩ (.int .u64 dfl)) cb 25 #[.int .i64 dep,.slice A n c,.int .u64 dfl] /\ NewRow w2.heap.size (((w5.setCell ⟨b,0,none⟩ (.int .i64 dep)).setCell ⟨b,1,none⟩ (.slice A5 n5 c5)).setCell ⟨b,2,none⟩ (.int .u64 dfl)) A n c dl /\ NewInts w2.heap.size (((w5.setCell ⟨b,0,none⟩ (.int .i64 dep)).setCell ⟨b,1,none⟩ (.slice A5 n5 c5)).setCell ⟨b,2,none⟩ (.int .u64 dfl)) B m d dt /\ Kept NoF w2 (((w5.setCell ⟨b,0,none⟩ (.int .i64 dep)).setCell ⟨b,1,none⟩ (.slice A5 n5 c5)).setCell ⟨b,2,none⟩ (.int .u64 dfl)) /\ w2.heap.size <= cb := by
 have hkk : Kept (fun k => k = b) w5 (((w5.setCell ⟨b,0,none⟩ (.int .i64 dep)).setCell ⟨b,1,none⟩ (.slice A5 n5 c5)).setCell ⟨b,2,none⟩ (.int .u64 dfl)) := (((Kept.refl (fun k => k = b) w5).put (.inl rfl)).put (.inl rfl)).put (.inl rfl)
 refine ⟨b,A5,n5,c5,B5,m5,d5,rfl,rfl,rfl,((hz.put 0 _).put 1 _).put 2 _,⟨hr.1,own_kept hr.2.1 hkk (fun g hg e => ?_),hr.2.2⟩,⟨ht.1,own_kept ht.2.1 hkk (fun g hg e => ?_),ht.2.2⟩,hk.trans hkk (fun k e => .inr (by omega)),hb⟩
 ·subst e;exact own_ne hr.2.1 hz (by decide) hg
 ·subst e;exact own_ne ht.2.1 hz (by decide) hg
theorem next_any' (h : MAt w X M) (hb : LgB X M.lg c) (hc : c <= 4000) (hm : MOk M k) (hk : k <= 1000) :
  Calls Tryz.prog 64 #[.pointer (some ⟨X.mb,0,none⟩)] w (MPost w X M c (.tuple #[]) (nextM M) 1) := by
 have hFl : ∀ q,foot X M q -> q < w.heap.size := fun q hq => h.lt hq
 have hch := change_any h hm
 have hcell : ∀ W,Kept NoF w W -> W.cell? ⟨X.mb,2,none⟩ = some (.pointer (some ⟨X.sb,0,none⟩)) /\ W.cell? ⟨X.mb,7,none⟩ = some (.int .u64 M.last) := fun W hW => ⟨(h.quiet hW).cell (i := 2) rfl,(h.quiet hW).cell (i := 7) rfl⟩
 have hconf : ∀ W,Kept NoF w W -> Calls Tryz.prog 48 #[.pointer (some ⟨X.sb,0,none⟩)] W (OwnPost W M.st.ep M.st.fl M.st.ms) := fun W hW => conf_at ((h.quiet hW).c 2) hm.st.inv.ok
 have hleg : ∀ W,Kept NoF w W -> Calls Tryz.prog 49 #[.pointer (some ⟨X.sb,0,none⟩)] W (NewInt W M.st.lg) := fun W hW => legit_at ((h.quiet hW).c 2) hm.st.inv.ok
 have hok := hm.st.inv.ok
 have hnx : ∀ W A0 c0 A1 c1 A2 c2 A3 c3,Src W 2 A0 M.st.ms.length (mcells M.st.ms) -> M.st.ms.length <= c0 /\ c0 <= maxLen -> Src W 1 A1 M.st.lg.length (ints M.st.lg) -> Src W 1 A2 (goneC M 4).length (ints (goneC M 4)) -> Src W 2 A3 (joinC M 4).length (mcells (joinC M 4)) ->
   Calls Tryz.prog 149 #[cagg M.st.ep A0 M.st.ms.length c0 M.st.fl,.slice A1 M.st.lg.length c1,.slice A2 (goneC M 4).length c2,.slice A3 (joinC M 4).length c3,  .int .u64 M.last] W (fun e w' => Plan.NextPost W (nextP M) e w') := fun W A0 c0 A1 c1 A2 c2 A3 c3 h0 hcc h1 h2 h3 =>
  pnext_any W M.st.ep M.st.fl A0 A1 A2 A3 c0 c1 c2 c3 M.st.ms (joinC M 4) M.st.lg (goneC M 4) M.last h0 h1 h2 h3 (by have := hok.m;omega) (by have := hok.l;omega) (by have := goneC_len M 4;omega) (by have := joinC_len M 4;omega) hm.st.su.fl hm.last hcc.1 (by have := hcc.2;unfold maxLen at this;omega) (lg_i64 hm.st) (gone_i64 M 4 (Nat.le_refl _)) (ms_i64 hm.st)
 have hnfl := nextP_fl hm
 have hwr : ∀ W A n c1 B m d,Kept NoF w W -> NewRow w.heap.size W A n c1 (nextP M).l -> NewInts w.heap.size W B m d (nextP M).t -> (nextP M).e = 0 -> Calls Tryz.prog 44 #[.pointer (some ⟨X.mb,0,none⟩),.agg (ncell (nconf (nextP M).ep (nextP M).l (nextP M).fl (nextP M).t A c1 B d)).toArray] W fun e w' =>
   e = .returned (.int .i64 (applyE M.st (nextC (nextP M)))) /\ ∃ X',Step w X M w' X' (writeM M (nextC (nextP M))) /\ LgB X' (writeM M (nextC (nextP M))).lg (c + 1) := fun W A n c1 B m d hW hA hB h0 => by
  obtain ⟨r,_,_,_,hl4⟩ := (next_is h0).form
  have ht4 : (nextP M).t.length <= 4 := by
   have h1 := ids_len (firsts M.st.ms M.st.lg (goneC M 4))
   have h2 : (nextP M).t = ids (firsts M.st.ms M.st.lg (goneC M 4)) := (next_is h0).tv
   have h3 : (firsts M.st.ms M.st.lg (goneC M 4)).length <= M.st.ms.length := List.length_filter_le _ _
   have h4 := (chk_zero (next_is h0).chkc).2.2.1
   rw [h2];omega
  obtain ⟨rfl,hA1,hA2⟩ := hA
  obtain ⟨rfl,hB1,hB2⟩ := hB
  have hx : NOk W (nconf (nextP M).ep (nextP M).l (nextP M).fl (nextP M).t A c1 B d) := nconf_ok (Src.of_own hA1) (own_cap hA1).1 (Nat.le_trans hl4 (by decide)) (Src.of_own hB1) (own_cap hB1).1 (by omega)
  refine (write_any (h.quiet hW) hb hc hok _ hx (nconf_u hnfl) ⟨row_off hFl hA1 hA2,row_off hFl hB1 hB2,fun h0 => absurd h0 (Nat.lt_irrefl 0)⟩).mono ?_
  rintro e w' ⟨rfl,X',hs,hl'⟩
  exact ⟨rfl,X',(Step.refl h hW).trans hs,hl'⟩
 have hbad : ((nextP M).e ≠ 0 \/ ((nextP M).e = 0 /\ applyE M.st (nextC (nextP M)) ≠ 0)) -> nextM M = M := fun hq => by
  unfold nextM
  rcases hq with hq | ⟨h0,hq⟩
  ·rw [if_pos hq]
  ·rw [if_neg (fun z => z h0),if_pos hq]
 have hwM : applyE M.st (nextC (nextP M)) ≠ 0 -> writeM M (nextC (nextP M)) = M := fun h0 => if_neg h0
 have hfin0 : ∀ W,nextM M = M -> Kept NoF w W -> MPost w X M c (.tuple #[]) (nextM M) 1 (.returned (.tuple #[])) W := fun W e1 hW => by
  rw [e1];exact ⟨rfl,X,Step.refl h hW,hb.mono (Nat.le_succ _)⟩
 have hgood : (nextP M).e = 0 -> applyE M.st (nextC (nextP M)) = 0 -> nextM M = sweepN (cleared (writeM M (nextC (nextP M)))) 4 := fun h0 h1 => by
  unfold nextM
  rw [if_neg (fun z => z h0),if_neg (fun z => z h1)]
 have hMW : MOk (cleared (writeM M (nextC (nextP M)))) k := (hm.write (nextC_u hnfl)).cleared
 have HFL := hZ0 hFl;have HCH := hZ0 hch;have HCELL := hZ0 hcell;have HCONF := hZ0 hconf;have HLEG := hZ0 hleg
 obtain ⟨D,hD⟩ : ∃ D,nextP M = D := ⟨_,rfl⟩
 rw [hD] at hbad hwM hgood hMW
 simp only [hD] at hnx hwr
 obtain ⟨E,hE⟩ : ∃ E,applyE M.st (nextC D) = E := ⟨_,rfl⟩
 obtain ⟨M1,hM1⟩ : ∃ M1,writeM M (nextC D) = M1 := ⟨_,rfl⟩
 obtain ⟨M9,hM9⟩ : ∃ M9,nextM M = M9 := ⟨_,rfl⟩
 rw [hE] at hbad hwM hgood
 rw [hM1] at hwM hgood hMW
 simp only [hE,hM1] at hwr
 rw [hM9] at hbad hfin0 hgood ⊢
 obtain ⟨G,hG⟩ : ∃ G,goneC M 4 = G := ⟨_,rfl⟩
 obtain ⟨J,hJ⟩ : ∃ J,joinC M 4 = J := ⟨_,rfl⟩
 unfold ChangePost at HCH
 rw [hG,hJ] at HCH
 simp only [hG,hJ] at hnx
 obtain ⟨ep,hep⟩ : ∃ ep,M.st.ep = ep := ⟨_,rfl⟩
 obtain ⟨fl,hfl⟩ : ∃ fl,M.st.fl = fl := ⟨_,rfl⟩
 obtain ⟨ms,hms⟩ : ∃ ms,M.st.ms = ms := ⟨_,rfl⟩
 obtain ⟨lg,hlg⟩ : ∃ lg,M.st.lg = lg := ⟨_,rfl⟩
 obtain ⟨la,hla⟩ : ∃ la,M.last = la := ⟨_,rfl⟩
 rw [hep,hfl,hms] at HCONF
 rw [hlg] at HLEG
 rw [hla] at HCELL
 simp only [hep,hfl,hms,hlg,hla] at hnx
 obtain ⟨dE,dep,dl,dfl,dt⟩ := D
 simp only [nconf,ncell,List.length_nil,ans0] at hwr
 simp only [Plan.NextPost,Plan.nagg] at hnx
 dsimp only at hbad hgood
 have HNX := hZ0 hnx;have HWR := hZ0 hwr;have HBAD := hZ0 hbad;have HWM := hZ0 hwM;have HFIN0 := hZ0 hfin0;have HGOOD := hZ0 hgood;have HMW := hZ0 hMW;have HB := hZ0 hb;have HM := hZ0 hm;have HOK := hZ0 hok;have HC := hZ0 hc;have H := hZ0 h
 clear hFl hch hcell hconf hleg hok hnx hnfl hwr hbad hwM hfin0 hgood hMW hD hE hM1 hM9 hG hJ hep hfl hms hlg hla h hb hc hm hk
 go_enter Tryz.func64,Tryz.ntmps64
 go_wp2_with fail
 refine HCH.out.mono ?_
 rintro e w2 ⟨A2,c2,A3,c3,rfl,hn2,hn3,hk2⟩
 obtain ⟨z2,z7⟩ := HCELL.out w2 hk2
 have HN2 := hZ0 hn2;have HN3 := hZ0 hn3;have HK2 := hZ0 hk2;clear hn2 hn3 hk2
 go_upto_region 1 with fail
 go_cut [4,5,6] (fun v4 v5 v6 wx => ∃ cb A n c B m d,v4 = .pointer (some ⟨cb,0,none⟩) /\ v5 = .slice B m d /\ v6 = .int .i64 dE /\ Has wx cb 25 #[.int .i64 dep,.slice A n c,.int .u64 dfl] /\ NewRow w2.heap.size wx A n c dl /\ NewInts w2.heap.size wx B m d dt /\ Kept NoF w2 wx /\ w2.heap.size <= cb)
 case first =>
  go_region_held3 (fun W => W.cell? ⟨X.mb,2,none⟩ = some (.pointer (some ⟨X.sb,0,none⟩)) /\ W.cell? ⟨X.mb,7,none⟩ = some (.int .u64 la))
   (first | with_reducible exact y5 | with_reducible exact y4 | with_reducible exact y3 | with_reducible exact ⟨z2,z7⟩ | (refine HCELL.out _ (HK2.out.then ?_);(repeat' (first | (with_reducible first | exact kR0 | apply kP0 | apply kN0 | apply kD0 | apply kA0) | (first | with_reducible exact HK5.out | with_reducible exact HK4.out | with_reducible exact HK3.out | (right;have h9 := Kept.size HK5.out;omega) | (right;have h9 := Kept.size HK4.out;omega) | (right;have h9 := Kept.size HK3.out;omega)) | (right;simp;done)));done))
   (first
    | (go_at_call 48;refine (HCONF.out _ (by (repeat' (first | (with_reducible first | exact kR0 | apply kP0 | apply kN0 | apply kD0 | apply kA0) | (exact HK2.out) | (right;simp;done))))).mono ?_;rintro e w3 ⟨A0,c0,rfl,hr0,hk3⟩;(try have zc : Has w3 w2.heap.size 25 #[.int .i64 0,.slice none 0 0,.int .u64 0] := Has.kept (Has.new w2 25 #[.int .i64 0,.slice none 0 0,.int .u64 0]) hk3 (fun z => z));(try have zc : Has w3 w2.heap.size 25 #[.int .i64 0,.slice none 0 0,.int .u64 0] := Has.kept (Has.new w2.drew 25 #[.int .i64 0,.slice none 0 0,.int .u64 0]) hk3 (fun z => z));(try have zc : Has w3 w2.heap.size 25 #[.int .i64 0,.slice none 0 0,.int .u64 0] := Has.kept (Has.drew (Has.new w2 25 #[.int .i64 0,.slice none 0 0,.int .u64 0])) hk3 (fun z => z));(try have ZC3 := hZ0 zc);(try clear zc);have hk := Kept.then (F := NoF) (a := w2) (by (repeat' (first | (with_reducible first | exact kR0 | apply kP0 | apply kN0 | apply kD0 | apply kA0) | (right;simp;done)))) hk3;have y3 := HCELL.out _ (HK2.out.then hk);have HR0 := hZ0 hr0;have HK3 := hZ0 hk;clear hk hk3 hr0)
    | (go_at_call 49;refine (HLEG.out _ (by (repeat' (first | (with_reducible first | exact kR0 | apply kP0 | apply kN0 | apply kD0 | apply kA0) | (exact HK2.out.then HK3.out) | (right;simp;done))))).mono ?_;rintro e w4 ⟨A1,c1,rfl,hr1,hk4⟩;(try have zc : Has w4 w3.heap.size 25 #[.int .i64 0,.slice none 0 0,.int .u64 0] := Has.kept (Has.new w3 25 #[.int .i64 0,.slice none 0 0,.int .u64 0]) hk4 (fun z => z));(try have zc : Has w4 w2.heap.size 25 #[.int .i64 0,.slice none 0 0,.int .u64 0] := Has.kept ZC3.out hk4 (fun z => z));(try have ZC4 := hZ0 zc);(try clear zc);have hk := Kept.then (F := NoF) (a := w2) (by (repeat' (first | (with_reducible first | exact kR0 | apply kP0 | apply kN0 | apply kD0 | apply kA0) | (exact HK3.out) | (right;simp;done)))) hk4;have y4 := HCELL.out _ (HK2.out.then hk);have HR04 := hZ0 (NewSl.kept (NewSl.kept HR0.out (by (repeat' (first | (with_reducible first | exact kR0 | apply kP0 | apply kN0 | apply kD0 | apply kA0) | (right;simp;done))))) hk4);have HR1 := hZ0 hr1;have HK4 := hZ0 hk;clear hk hk4 hr1)
    | (go_at_call 149;refine (HNX.out _ A0 c0 A1 c1 A2 c2 A3 c3 (Src.of_own (own_kept HR04.out.1 (F := NoF) (by (repeat' (first | (with_reducible first | exact kR0 | apply kP0 | apply kN0 | apply kD0 | apply kA0) | (right;simp;done)))) (fun _ _ z => z))) (own_cap HR04.out.1) (Src.of_own (own_kept HR1.out.1 (F := NoF) (by (repeat' (first | (with_reducible first | exact kR0 | apply kP0 | apply kN0 | apply kD0 | apply kA0) | (right;simp;done)))) (fun _ _ z => z))) (Src.of_own (own_kept HN2.out.1 (F := NoF) (by (repeat' (first | (with_reducible first | exact kR0 | apply kP0 | apply kN0 | apply kD0 | apply kA0) | (exact HK4.out) | (right;simp;done)))) (fun _ _ z => z))) (Src.of_own (own_kept HN3.out.1 (F := NoF) (by (repeat' (first | (with_reducible first | exact kR0 | apply kP0 | apply kN0 | apply kD0 | apply kA0) | (exact HK4.out) | (right;simp;done)))) (fun _ _ z => z)))).mono ?_;rintro e w5 ⟨A5,n5,c5,B5,m5,d5,rfl,hr5,ht5,hk5⟩;(try have zc : Has w5 w4.heap.size 25 #[.int .i64 0,.slice none 0 0,.int .u64 0] := Has.kept (Has.new w4 25 #[.int .i64 0,.slice none 0 0,.int .u64 0]) hk5 (fun z => z));(try have zc := Has.kept ZC4.out hk5 (fun z => z));(try have f0 := zc.frozen 0);(try have f1 := zc.frozen 1);(try have f2 := zc.frozen 2);(try have e0 := zc.cell 0);(try have e1 := zc.cell 1);(try have e2 := zc.cell 2);(try simp only [List.getElem?_toArray,List.getElem?_cons_zero,List.getElem?_cons_succ] at e0 e1 e2);(try have ZC5 := hZ0 zc);(try clear zc);have hk := Kept.then (F := NoF) (a := w2) (by (repeat' (first | (with_reducible first | exact kR0 | apply kP0 | apply kN0 | apply kD0 | apply kA0) | (exact HK4.out) | (right;simp;done)))) hk5;have y5 := HCELL.out _ (HK2.out.then hk);have HR5 := hZ0 (show NewRow w2.heap.size w5 A5 n5 c5 dl from ⟨hr5.1,hr5.2.1,fun k hk => Nat.le_trans (Kept.size (F := NoF) (a := w2) (by (repeat' (first | (with_reducible first | exact kR0 | apply kP0 | apply kN0 | apply kD0 | apply kA0) | (exact HK4.out) | (right;simp;done))))) (hr5.2.2 k hk)⟩);have HT5 := hZ0 (show NewInts w2.heap.size w5 B5 m5 d5 dt from ⟨ht5.1,ht5.2.1,fun k hk => Nat.le_trans (Kept.size (F := NoF) (a := w2) (by (repeat' (first | (with_reducible first | exact kR0 | apply kP0 | apply kN0 | apply kD0 | apply kA0) | (exact HK4.out) | (right;simp;done))))) (ht5.2.2 k hk)⟩);have HK5 := hZ0 hk;clear hk hk5 hr5 ht5))
  all_goals (
   go_wp2_with fail
   go_meet
   (first | exact next_fin1 HR5.out HT5.out HK5.out | exact next_fin2 ZC5.out (Kept.size HK4.out) HR5.out HT5.out HK5.out | exact next_fin2 ZC5.out (Kept.size HK3.out) HR5.out HT5.out HK5.out | exact next_fin2 ZC5.out (Nat.le_refl _) HR5.out HT5.out HK5.out))
 case rest =>
  obtain ⟨cb,A,n,c1,B,m,d,rfl,rfl,rfl,hcb,hA,hB,hk,hle⟩ := hcut
  obtain ⟨w6,hw6⟩ : ∃ w6,w6 = wc := ⟨_,rfl⟩
  subst hw6
  clear z2 z7
  have hkw : Kept NoF w w6 := HK2.out.then hk
  have hA' : NewRow w.heap.size w6 A n c1 dl := ⟨hA.1,hA.2.1,fun k h => Nat.le_trans HK2.out.size (hA.2.2 k h)⟩
  have hB' : NewInts w.heap.size w6 B m d dt := ⟨hB.1,hB.2.1,fun k h => Nat.le_trans HK2.out.size (hB.2.2 k h)⟩
  have hwr := HWR.out w6 A n c1 B m d hkw hA' hB'
  obtain rfl := hA.1
  obtain rfl := hB.1
  have q0 : w6.cell? ⟨cb,0,none⟩ = some (.int .i64 dep) := hcb.cell 0
  have q1 : w6.cell? ⟨cb,1,none⟩ = some (.slice A dl.length c1) := hcb.cell 1
  have q2 : w6.cell? ⟨cb,2,none⟩ = some (.int .u64 dfl) := hcb.cell 2
  have HKW := hZ0 hkw;have HW6 := hZ0 hwr
  clear hcb hA hB hA' hB' hk hle hkw hwr
  by_cases h0 : dE = 0
  rotate_left
  ·have hz : (dE != 0) = true := by simpa using h0
   have HF := hZ0 (HFIN0.out w6 (HBAD.out (.inl h0)) HKW.out)
   clear h0 q0 q1 q2
   go_wp2
   refine bodyPost_ret (v := .tuple #[]) (by simp [results,Tryz.results64,go_sem]) rfl ?_
   exact HF.out
  ·subst h0
   have hwr := HW6.out rfl
   have HW7 := hZ0 hwr;clear hwr
   go_wp2_with fail
   clear q0 q1 q2
   refine HW7.out.mono ?_
   rintro e w7 ⟨rfl,X1,hs,hl⟩
   by_cases h1 : E = 0
   rotate_left
   ·have hz : (E != 0) = true := by simpa using h1
    have e1 := HWM.out h1
    have e2 := HBAD.out (.inr ⟨by first | rfl | trivial,h1⟩)
    rw [e1] at hs hl
    have HF := hZ0 (show MPost w X M c (.tuple #[]) M9 1 (.returned (.tuple #[])) w7 from by rw [e2];exact ⟨rfl,X1,hs,hl⟩)
    clear h1 e1 e2 hs hl
    go_wp2
    refine bodyPost_ret (v := .tuple #[]) (by simp [results,Tryz.results64,go_sem]) rfl ?_
    exact HF.out
   ·subst h1
    have e9 := HGOOD.out (by first | rfl | trivial) (by first | rfl | trivial)
    have HE9 := hZ0 e9;clear e9
    have q5 : w7.cell? ⟨X.mb,5,none⟩ = some (.map (some X1.mm)) := by
     have := hs.at'.cell (i := 5) (v := .map (some X1.mm)) rfl
     rw [hs.mb] at this;exact this
    obtain ⟨W8,hr8,hs8,hk8⟩ := IMap.clear1 (hs.at'.c 5) Tryz.underlying60
    have st8 := hs.trans (MAt.setMarks hs.at' hs8 (Nat.le_refl _) hk8)
    have q10 : W8.cell? ⟨X.mb,10,none⟩ = some (.map (some X1.lo)) := by
     have := st8.at'.cell (i := 10) (v := .map (some X1.lo)) rfl
     rw [st8.mb] at this;exact this
    obtain ⟨W9,hr9,hs9,hk9⟩ := SetIs.clear1 (st8.at'.c 9)
    have st9 : Step w X M W9 X1 (cleared M1) := st8.trans (MAt.setLost st8.at' hs9 (Nat.le_refl _) hk9)
    have hl9 : LgB X1 (cleared M1).lg (c + 1) := hl
    have HS9 := hZ0 st9;have HL9 := hZ0 hl9
    clear hs hl hs8 hk8 st8 hs9 hk9 st9 hl9
    obtain ⟨M2,hM2⟩ : ∃ M2,cleared M1 = M2 := ⟨_,rfl⟩
    have hsw : ∀ i,sweepN M2 (i + 1) = sweep1 (sweepN M2 i) i := fun i => sweepN_succ M2 i
    rw [hM2] at HS9 HL9 HMW HE9
    have HSW := hZ0 hsw;clear hsw hM2
    go_wp2_with fail
    clear q5 q10 hr8 hr9
    go_loopw [7,52] (fun v7 v52 wr => ∃ i : Nat,i <= 4 /\ v52 = .int .i64 i /\ Step w X M wr X1 (sweepN M2 i)) (fun _ v52 _ => 4 - (intOf v52).toNat)
    case atStart => exact ⟨0,by omega,rfl,HS9.out⟩
    case round =>
     obtain ⟨i,hi,rfl,hst⟩ := hrel
     by_cases hil : i < 4
     ·have hmo := (HMW.out).sweepN i
      have hmem := member_any hst.at' hmo.st.inv.ok (i : Int)
      rw [hst.mb] at hmem
      have hi64 := i64_small (i := (i : Int)) (by omega) (by omega)
      have hsc := HSW.out i
      obtain ⟨M3,hM3⟩ : ∃ M3,sweepN M2 i = M3 := ⟨_,rfl⟩
      rw [hM3] at hst hmo hmem hsc
      obtain ⟨b,hb⟩ : ∃ b,anyId M3.st.ms (i : Int) = b := ⟨_,rfl⟩
      rw [hb] at hmem
      have hs1 : sweep1 M3 i = if b then { M3 with ns := M3.ns.set i 0,joins := fun y => !decide (y = (i : Int)) && M3.joins y } else { M3 with leaves := fun y => !decide (y = (i : Int)) && M3.leaves y } := by unfold sweep1;rw [hb]
      have HMEM := hZ0 hmem;have HST := hZ0 hst;have HMO := hZ0 hmo;have HSC := hZ0 hsc;have HS1 := hZ0 hs1;have HI := hZ0 hi64
      clear hmem hst hmo hsc hs1 hi64 hM3 hb
      cases b
      ·go_wp2_with fail
       refine HMEM.out.mono ?_
       rintro e w8 ⟨rfl,hk⟩
       have st := HST.out.quiet hk
       have q9 : w8.cell? ⟨X.mb,9,none⟩ = some (.map (some X1.le)) := by
        have := st.at'.cell (i := 9) (v := .map (some X1.le)) rfl
        rw [st.mb] at this;exact this
       have hdr := fun ty => SetIs.drop (st.at'.c 8) HI.out ty
       obtain ⟨W2,hd2⟩ := Classical.axiomOfChoice hdr
       have hr2 := fun ty => (hd2 ty).1
       have hfin : ∀ ty,Step w X M (W2 ty) X1 (sweepN M2 (i + 1)) := fun ty => by
        rw [HSC.out,HS1.out,if_neg (by decide)]
        exact st.trans (MAt.setLeaves st.at' (hd2 ty).2.1 (Nat.le_refl _) (hd2 ty).2.2)
       have HFI := hZ0 hfin
       clear hk st hdr hd2 hfin
       go_wp2_with fail
       go_roundw
       case rel => exact ⟨i + 1,by omega,by go_num,HFI.out _⟩
       case measure => simp [intOf];omega
      ·go_wp2_with fail
       refine HMEM.out.mono ?_
       rintro e w8 ⟨rfl,hk⟩
       have st := HST.out.quiet hk
       have q4 : w8.cell? ⟨X.mb,4,none⟩ = some (.pointer (some ⟨X1.wb,0,none⟩)) := by
        have := st.at'.cell (i := 4) (v := .pointer (some ⟨X1.wb,0,none⟩)) rfl
        rw [st.mb] at this;exact this
       have hhe := heard_any (st.at'.c 4) HMO.out.wat i hil
       have HHE := hZ0 hhe;have HST2 := hZ0 st
       clear hk st hhe
       go_wp2_with fail
       clear q4
       refine HHE.out.mono ?_
       rintro e w9 ⟨rfl,hw9,hk9⟩
       have st := HST2.out.trans (MAt.setWat HST2.out.at' hw9 hk9)
       have q8 : w9.cell? ⟨X.mb,8,none⟩ = some (.map (some X1.jo)) := by
        have := st.at'.cell (i := 8) (v := .map (some X1.jo)) rfl
        rw [st.mb] at this;exact this
       have hdr := fun ty => SetIs.drop (st.at'.c 7) HI.out ty
       obtain ⟨W2,hd2⟩ := Classical.axiomOfChoice hdr
       have hr2 := fun ty => (hd2 ty).1
       have hfin : ∀ ty,Step w X M (W2 ty) X1 (sweepN M2 (i + 1)) := fun ty => by
        rw [HSC.out,HS1.out,if_pos (by first | rfl | trivial)]
        exact st.trans (MAt.setJoins st.at' (hd2 ty).2.1 (Nat.le_refl _) (hd2 ty).2.2)
       have HFI := hZ0 hfin
       clear hw9 hk9 st hdr hd2 hfin
       go_wp2_with fail
       go_roundw
       case rel => exact ⟨i + 1,by omega,by go_num,HFI.out _⟩
       case measure => simp [intOf];omega
     ·obtain rfl : i = 4 := by omega
      have HST := hZ0 hst
      have HF := hZ0 (show MPost w X M c (.tuple #[]) M9 1 (.returned (.tuple #[])) wr from by
       rw [HE9.out]
       refine ⟨rfl,X1,HST.out,?_⟩
       rw [(sweepN_rest M2 4).2.2.1]
       exact HL9.out)
      clear hst
      go_wp2
      go_end0
      exact HF.out
end
end Mas
end Go.Proofs.YtolkgbafebehfaaGreat

/- Part 55 of what the proof needs. -/
import Derived.Test.YtolkgbafebehfaaGreatHP53
set_option linter.unusedSimpArgs false
set_option linter.unusedVariables false
set_option maxHeartbeats 32000000
set_option maxRecDepth 100000
namespace Go.Proofs.YtolkgbafebehfaaGreat
open Go.RowKit
set_option maxRecDepth 100000
namespace Mas
open Plan Vn Mst Wat IM Nte Msg MO
attribute [local go_sem ↓] loadVar_act
theorem head_cons {s : StR} (h : StOk s) (h1 : 1 <= s.ep) : ∃ m r,s.ms = m :: r /\ m.1 ∈ s.lg /\ s.ms.length <= 4 /\ s.ep <= 1073741824 := by
 rcases h.inv.conf with q | q
 ·have := q.1;omega
 ·obtain ⟨a,b,c,d⟩ := chk_zero q.1
  obtain ⟨m,r,e⟩ := List.exists_cons_of_ne_nil b
  refine ⟨m,r,e,?_,c,a.2⟩
  have := q.2.2.2.1
  rw [e] at this
  exact this
theorem actM_rel {M : MR} {k : Nat} (h : MOk M k) (a : ActR) : HRel M.st (actM M a).st := by
 unfold actM
 split
 ·exact deliverM_rel _ _ _
 split
 ·exact tickM_rel h
 split
 ·exact joinM_rel _ _
 split
 ·exact leaveM_rel _ _
 ·exact (SameC.refl _).rel
theorem inB_iff {l : List Int} {x : Int} : inB l x = true ↔ x ∈ l := by unfold inB;rw [List.contains_iff_mem]
theorem law_head (w : World) (ep fl : Int) (A : Option Addr) (c : Nat) (l : List Mem) (B : Option Addr) (d : Nat) (acts : List ActR) (hl : Src w 2 A l.length (mcells l)) (hlc : l.length <= c) (hcm : c <= maxLen) (hfl : 0 <= fl /\ fl <= maxTs)
  (ha : Src w 24 B acts.length (acells acts)) (hg : ∀ a ∈ acts,AGood w a) (had : acts.length <= d) (hdm : d <= maxLen) :
  Calls Tryz.prog 3 #[cagg ep A l.length c fl,.slice B acts.length d] w fun e w' => e = .returned (.bool true) /\ Below w.heap.size w w' := by
 have hend : ∀ w',Kept NoF w w' -> Below w.heap.size w w' := fun w' hk => hk.below (Nat.le_refl _) (fun _ z => z.elim)
 have hfew := fun W (hW : Kept NoF w W) => few_any W B d acts (ha.kept hW (fun _ _ z => z)) (fun a h => (hg a h).1.lens)
 have haw := fun W => awake_m W
 have hll : l.length <= 9223372036854775807 := by unfold maxLen at hcm;omega
 obtain ⟨W0,hW0⟩ : ∃ W0,w.alloc (.cells #[.int .i64 ep,.slice A l.length c,.int .u64 fl] 25) = W0 := ⟨_,rfl⟩
 have hk0 : Kept NoF w W0 := by rw [<- hW0];(repeat' (first | (with_reducible first | exact kR0 | apply kP0 | apply kN0 | apply kD0 | apply kA0) | (right;simp;done)))
 have hn0 : Has W0 w.heap.size 25 #[.int .i64 ep,.slice A l.length c,.int .u64 fl] := by rw [<- hW0];exact Has.new _ _ _
 obtain ⟨cb,hcb⟩ : ∃ cb,w.heap.size = cb := ⟨_,rfl⟩
 rw [hcb] at hn0
 have hcc : ∀ W,Kept NoF W0 W -> W.cell? ⟨cb,0,none⟩ = some (.int .i64 ep) /\ W.cell? ⟨cb,1,none⟩ = some (.slice A l.length c) /\ W.cell? ⟨cb,2,none⟩ = some (.int .u64 fl) := fun W hW => ⟨(hn0.kept hW (fun z => z)).cell 0,(hn0.kept hW (fun z => z)).cell 1,(hn0.kept hW (fun z => z)).cell 2⟩
 obtain ⟨fw,hfw⟩ : ∃ fw,fewP acts = fw := ⟨_,rfl⟩
 simp only [hfw] at hfew
 have HEND := hZ0 hend;have HFEW := hZ0 hfew;have HAW := hZ0 haw;have HCC := hZ0 hcc;have HK0 := hZ0 hk0;have HL := hZ0 hl;have HLC := hZ0 hlc;have HFL := hZ0 hfl;have HA := hZ0 ha;have HG := hZ0 hg
 have HBELOW := hZ0 (show ∀ W,Kept NoF W0 W -> (∀ k,k = cb -> w.heap.size <= k) from fun W hW k e => by omega)
 have HAD := hZ0 had;have HDM := hZ0 hdm;have HFW := hZ0 hfw
 obtain ⟨b0,b1,b2⟩ := hcc W0 (Kept.refl _ _)
 clear hend hfew haw hcc hk0 hn0 hl hlc hcm hfl ha hg had hdm hfw
 go_enter Tryz.func3,Tryz.ntmps3
 go_wp2_with fail
 clear hW0 b0 b1 b2 hcb
 refine (HFEW.out W0 HK0.out).mono ?_
 rintro e w1 ⟨rfl,hk1⟩
 obtain ⟨b0,b1,b2⟩ := HCC.out w1 hk1
 have HK1 := hZ0 hk1;clear hk1
 cases fw
 ·go_wp2_with fail
  clear b0 b1 b2
  refine (HAW.out _).mono ?_
  rintro e w3 ⟨rfl,hk3⟩
  have HE := hZ0 (HEND.out _ (HK0.out.then (HK1.out.then hk3)));clear hk3
  go_wp2
  go_ret
  exact ⟨rfl,HE.out⟩
 by_cases h20 : 20 < l.length
 ·have h20' : (20 : Int) < (l.length : Int) := by omega
  go_wp2_with fail
  clear b0 b1 b2 h20 h20'
  refine (HAW.out _).mono ?_
  rintro e w3 ⟨rfl,hk3⟩
  have HE := hZ0 (HEND.out _ (HK0.out.then (HK1.out.then hk3)));clear hk3
  go_wp2
  go_ret
  exact ⟨rfl,HE.out⟩
 have h20' : ¬ (20 : Int) < (l.length : Int) := by omega
 have hls := h20
 have HLS := hZ0 hls
 clear hls h20 hll
 by_cases h0 : Plan.chk ep l = 0
 rotate_left
 ·have hbad := fun W v (hW : Kept NoF w W) => mnew_bad W v ep fl A c l (HL.out.kept hW (fun _ _ z => z)) HLC.out (by have := HLS.out;omega) h0
  obtain ⟨z,hz⟩ : ∃ z,Plan.chk ep l = z := ⟨_,rfl⟩
  simp only [hz] at h0 hbad
  have hz2 : (z != 0) = true := by simpa using h0
  have HB := hZ0 hbad
  clear hbad h0 hz
  go_wp2_with fail
  go_region_held3 (fun W => W.cell? ⟨cb,0,none⟩ = some (.int .i64 ep) /\ W.cell? ⟨cb,1,none⟩ = some (.slice A l.length c) /\ W.cell? ⟨cb,2,none⟩ = some (.int .u64 fl))
   (first | with_reducible exact y4 | with_reducible exact y3 | with_reducible exact ⟨b0,b1,b2⟩ | (simp [go_sem,b0,b1,b2];done))
   (first
    | (go_at_call 11;refine (Disk.new_any _).mono ?_;rintro e w3 ⟨g,F,rfl,hd,hk3,hF⟩;have hk := Kept.then (F := NoF) (a := w1) (by (repeat' (first | (with_reducible first | exact kR0 | apply kP0 | apply kN0 | apply kD0 | apply kA0) | (right;simp;done)))) hk3;have y3 := HCC.out _ (HK1.out.then hk);have HK3 := hZ0 hk;clear hd hk hk3 hF)
    | (go_at_call 10;refine (HB.out _ _ (by (repeat' (first | (with_reducible first | exact kR0 | apply kP0 | apply kN0 | apply kD0 | apply kA0) | (exact HK0.out.then (HK1.out.then HK3.out)) | (right;simp;done))))).mono ?_;rintro e w4 ⟨rfl,hk4⟩;have hk := Kept.then (F := NoF) (a := w1) (by (repeat' (first | (with_reducible first | exact kR0 | apply kP0 | apply kN0 | apply kD0 | apply kA0) | (exact HK3.out) | (right;simp;done)))) hk4;have y4 := HCC.out _ (HK1.out.then hk);have HK4 := hZ0 hk;clear hk hk4))
  clear b0 b1 b2 y3 y4
  go_wp2_with fail
  refine (HAW.out _).mono ?_
  rintro e w5 ⟨rfl,hk5⟩
  have HE := hZ0 (HEND.out _ (HK0.out.then (HK1.out.then (HK4.out.then hk5))));clear hk5
  go_wp2
  go_ret
  exact ⟨rfl,HE.out⟩
 have hnew : ∀ W g F ser boot,Kept NoF W0 W -> Disk.DiskAt W g F 0 (fun _ => none) [] ser boot -> (∀ k,F k -> W0.heap.size <= k) -> Calls Tryz.prog 10 #[.pointer (some ⟨g,0,none⟩),cagg ep A l.length c fl] W fun e w' => ∃ X,e = .returned (.tuple #[.pointer (some ⟨X.mb,0,none⟩),.int .i64 0]) /\ Own w X.mb 2 0 w' X (newM ep l fl) /\ Kept NoF W0 w' := fun W g F ser boot hW hd hF => by
  have hs0 := HK0.out.size
  refine (mnew_any W g F ser boot ep fl A c l hd (HL.out.kept (HK0.out.then hW) (fun _ _ z => z)) (fun h1 ad e hf => ?_) HLC.out (by have := HLS.out;omega) HFL.out h0).mono ?_
  ·obtain ⟨ad2,e2,hlt,_⟩ := HL.out.2 h1
   have e3 : ad = ad2 := by have e4 : some ad = some ad2 := e.symm.trans e2;injection e4
   rw [e3] at hf
   have := hF _ hf;omega
  ·rintro e w' ⟨X,rfl,hm,hlb,-,hft,hk⟩
   exact ⟨X,rfl,Own.new (HK0.out.then hW) (fun k hf => by have := hF k hf;omega) HFL.out hm hlb hft hk,hW.trans hk (fun k hf => .inr (hF k hf))⟩
 have HNEW := hZ0 hnew;have H0 := hZ0 h0
 clear hnew h0
 go_wp2_with fail
 go_region_held3 (fun W => W.cell? ⟨cb,0,none⟩ = some (.int .i64 ep) /\ W.cell? ⟨cb,1,none⟩ = some (.slice A l.length c) /\ W.cell? ⟨cb,2,none⟩ = some (.int .u64 fl))
  (first | with_reducible exact y4 | with_reducible exact y3 | with_reducible exact ⟨b0,b1,b2⟩ | (simp [go_sem,b0,b1,b2];done))
  (first
   | (go_at_call 11;refine (Disk.new_any _).mono ?_;rintro e w3 ⟨g,F,rfl,hd,hk3,hF⟩;have hsz := Kept.size HK1.out;have hk := Kept.then (F := NoF) (a := w1) (by (repeat' (first | (with_reducible first | exact kR0 | apply kP0 | apply kN0 | apply kD0 | apply kA0) | (right;simp;done)))) hk3;have y3 := HCC.out _ (HK1.out.then hk);have HK3 := hZ0 hk;have HD3 := hZ0 hd;have HF3 := hZ0 (show ∀ k,F k -> W0.heap.size <= k from fun k hf => Nat.le_trans hsz (hF k hf));clear hd hk hk3 hF hsz)
   | (go_at_call 10;refine (HNEW.out _ g F 1 1 (by (repeat' (first | (with_reducible first | exact kR0 | apply kP0 | apply kN0 | apply kD0 | apply kA0) | (exact HK1.out.then HK3.out) | (right;simp;done)))) (HD3.out.kept (G := NoF) (by (repeat' (first | (with_reducible first | exact kR0 | apply kP0 | apply kN0 | apply kD0 | apply kA0) | (right;simp;done)))) (fun _ _ z => z)) HF3.out).mono ?_;rintro e w4 ⟨X,rfl,ho,hk4⟩;have y4 := HCC.out _ hk4;have HO := hZ0 ho;clear ho hk4))
 clear b0 b1 b2 y3 y4
 obtain ⟨mb,hmb⟩ : ∃ mb,X.mb = mb := ⟨_,rfl⟩
 rw [hmb] at HO ⊢
 have hep1 := (chk_zero H0.out).1
 have hst0 := newM_st (fl := fl) H0.out
 have hout0 : (newM ep l fl).out = [] := rfl
 have hep0 : 1 <= (newM ep l fl).st.ep := by rw [hst0];exact hep1.1
 have HO0 := hZ0 hout0;have HE0 := hZ0 hep0
 clear hmb hep1 hst0 hout0 hep0 HNEW HD3 HF3
 go_wp2_with fail
 go_loopw [7,8,9,10,11,12,13] (fun v7 v8 v9 v10 v11 v12 v13 wr => ∃ (i : Nat) (M : MR) (X1 : MX),i <= acts.length /\ i <= 60 /\ v7 = .int .i64 i /\ Own w mb (2 + 6 * i) i wr X1 M /\ M.out = [] /\ 1 <= M.st.ep) (fun v7 _ _ _ _ _ _ _ => acts.length - (intOf v7).toNat)
 case atStart => exact ⟨0,_,X,Nat.zero_le _,Nat.zero_le _,rfl,HO.out,HO0.out,HE0.out⟩
 case round =>
  obtain ⟨i,M,X1,hi,hi6,rfl,ho,hout,hep⟩ := hrel
  have hdone : ¬ (i < acts.length /\ i < 60) -> Kept NoF w wr := fun _ => ho.kp
  by_cases hil : i < acts.length
  ·by_cases hi60 : i < 60
   ·obtain ⟨a,ha⟩ : ∃ a,acts[i]? = some a := ⟨_,List.getElem?_eq_getElem hil⟩
    have hga := HG.out a (List.mem_of_getElem? ha)
    obtain ⟨f1,f2,f3,f4,f5⟩ := fewA_get (fewP_get HFW.out hi60 ha)
    have hxo := fun W (hW : Kept NoF w W) => (hga.1.kept hW).ok f1 f3 f4 f5
    have hrel := actM_rel ho.ok a
    have hok1 := ho.ok.act a hga.1.i (hxo wr ho.kp)
    have hep1 : 1 <= (actM M a).st.ep := hrel.ep hep
    obtain ⟨m,r,hmr,hml,hm4,hepm⟩ := head_cons hok1.st hep1
    have hfl1 := hok1.st.su.fl
    have hcf0 := mconf_any ho.at' ho.ok.st.inv.ok
    have hlg0 := fun W (hW : Kept NoF wr W) => mlegit_any (ho.at'.quiet hW) ho.ok.st.inv.ok
    have hdo := fun W (hW : Kept NoF wr W) => do_any (ho.at'.quiet hW) ho.lb (by omega) ho.ok (by omega) hout a (hxo W (ho.kp.then hW)) hga.1.i hga.2
    have hft : ∀ q,foot X1 M q -> q < wr.heap.size := fun q hq => ho.at'.lt hq
    have hown : ∀ W W' X2,Kept NoF wr W -> Step W X1 M W' X2 (actM M a) -> LgB X2 (actM M a).lg (2 + 6 * i + 6) -> Own w mb (2 + 6 * (i + 1)) (i + 1) W' X2 (actM M a) := fun W W' X2 hW hs hl => (ho.quiet hW).step hs (hl.mono (by omega)) hok1
    have hout1 := actM_out M a hout
    have hla := fun W (hW : Kept NoF wr W) => run_loadAct_row W B acts (HA.out.kept (ho.kp.then hW) (fun _ _ z => z)) i a ha
    obtain ⟨ad,rfl,-,-⟩ := hla wr (Kept.refl _ _)
    have hla2 : ∀ W,Kept NoF wr W -> (loadAct (ad.add (i * 24))).run Tryz.prog W = .ok (.agg (acell a).toArray) W := fun W hW => by
     obtain ⟨ad2,e2,_,h3⟩ := hla W hW
     injection e2 with e2
     subst e2
     exact h3
    simp only [ho.mb] at hcf0 hlg0 hdo
    unfold DoPost at hdo
    have hok0 := ho.ok.st.inv.ok
    have hlm := hok0.m
    have hll := hok0.l
    have hlm1 := hok1.st.inv.ok.m
    have hll1 := hok1.st.inv.ok.l
    obtain ⟨M1,hM1⟩ : ∃ M1,actM M a = M1 := ⟨_,rfl⟩
    rw [hM1] at hrel hok1 hep1 hmr hml hm4 hepm hfl1 hout1 hlm1 hll1
    simp only [hM1] at hown hdo
    obtain ⟨cs,hcs⟩ : ∃ cs,(acell a).toArray = cs := ⟨_,rfl⟩
    simp only [hcs] at hdo hla2
    have HCF0 := hZ0 hcf0;have HLG0 := hZ0 hlg0;have HDO := hZ0 hdo;have HFT := hZ0 hft;have HOWN := hZ0 hown;have HLA := hZ0 hla2;have HREL := hZ0 hrel;have HOK1 := hZ0 hok1;have HEP1 := hZ0 hep1;have HML := hZ0 hml;have HEPM := hZ0 hepm;have HFL1 := hZ0 hfl1;have HOUT1 := hZ0 hout1;have HLM := hZ0 (And.intro hlm hll);have HLM1 := hZ0 (And.intro hlm1 hll1);have HMR := hZ0 hmr;have HKW := hZ0 ho.kp
    clear hcf0 hlg0 hdo hft hown hla hla2 hrel hok1 hep1 hml hepm hfl1 hout1 hlm hll hlm1 hll1 hmr hm4 hok0 hxo hga f1 f2 f3 f4 f5 ha ho hout hep hM1 hcs hdone
    obtain ⟨ep0,hep0⟩ : ∃ ep0,M.st.ep = ep0 := ⟨_,rfl⟩
    obtain ⟨fl0,hfl0⟩ : ∃ fl0,M.st.fl = fl0 := ⟨_,rfl⟩
    obtain ⟨ms0,hms0⟩ : ∃ ms0,M.st.ms = ms0 := ⟨_,rfl⟩
    obtain ⟨lgs0,hlgs0⟩ : ∃ lgs0,M.st.lg = lgs0 := ⟨_,rfl⟩
    rw [hep0,hfl0,hms0] at HCF0
    rw [hlgs0] at HLG0
    rw [hms0,hlgs0] at HLM
    have HN0 := hZ0 (And.intro hep0 (And.intro hfl0 (And.intro hms0 hlgs0)))
    clear hep0 hfl0 hms0 hlgs0
    go_wp2_with fail
    refine HCF0.out.mono ?_
    rintro e w3 ⟨A1,c1,rfl,hr1,hk3⟩
    obtain ⟨W3,hW3⟩ : ∃ W3,w3.alloc (.cells #[.int .i64 ep0,.slice A1 ms0.length c1,.int .u64 fl0] 25) = W3 := ⟨_,rfl⟩
    have hkw3 : Kept NoF wr W3 := by rw [<- hW3];(repeat' (first | (with_reducible first | exact kR0 | apply kP0 | apply kN0 | apply kD0 | apply kA0) | (exact hk3) | (right;simp;done)))
    have hb3 : Has W3 w3.heap.size 25 #[.int .i64 ep0,.slice A1 ms0.length c1,.int .u64 fl0] := by rw [<- hW3];exact Has.new _ _ _
    have hr3 := NewSl.kept hr1 (w' := W3) (by rw [<- hW3];(repeat' (first | (with_reducible first | exact kR0 | apply kP0 | apply kN0 | apply kD0 | apply kA0) | (right;simp;done))))
    have hwb : wr.heap.size <= w3.heap.size := hk3.size
    obtain ⟨wb,hwbe⟩ : ∃ wb,w3.heap.size = wb := ⟨_,rfl⟩
    rw [hwbe] at hb3 hwb
    have HB3 := hZ0 hb3;have HR3 := hZ0 hr3;have HK3 := hZ0 hkw3;have HWB := hZ0 hwb
    clear hb3 hr3 hkw3 hwb hr1 hk3
    go_wp2_with fail
    clear hW3 hwbe
    refine (HLG0.out W3 HK3.out).mono ?_
    rintro e w4 ⟨B1,d1,rfl,hl4,hk4⟩
    have hkw4 := HK3.out.then hk4
    have hla := HLA.out w4 hkw4
    have HL4 := hZ0 hl4;have HK4 := hZ0 hkw4;have HB4 := hZ0 (HB3.out.kept hk4 (fun z => z));have HR4 := hZ0 (NewSl.kept HR3.out hk4);have HS34 := hZ0 HK3.out.size
    have hdo := HDO.out w4 hkw4
    have HDO4 := hZ0 hdo
    clear hl4 hk4 hkw4 hdo
    go_wp2_with fail
    clear hla
    refine HDO4.out.mono ?_
    rintro e w5 ⟨rfl,X2,hs5,hl5⟩
    have hob := hs5.has HB4.out (fun hf => by have := HFT.out _ hf;have := HWB.out;omega)
    have hor := hs5.row HR4.out.1 (fun q hq hf => by have := HFT.out _ hf;have := HR4.out.2 q hq;omega)
    have hol := hs5.row HL4.out.1 (fun q hq hf => by have := HFT.out _ hf;have := HL4.out.2 q hq;have := HS34.out;omega)
    have ho5 := HOWN.out w4 w5 X2 HK4.out hs5 hl5
    have hcf5 := mconf_any ho5.at' HOK1.out.st.inv.ok
    have hlg5 := fun W (hW : Kept NoF w5 W) => mlegit_any (ho5.at'.quiet hW) HOK1.out.st.inv.ok
    simp only [ho5.mb] at hcf5 hlg5
    have HO5 := hZ0 ho5;have HOB := hZ0 hob.1;have HOR := hZ0 hor.1;have HOL := hZ0 hol.1
    obtain ⟨ep1,hep1⟩ : ∃ ep1,M1.st.ep = ep1 := ⟨_,rfl⟩
    obtain ⟨fl1,hfl1⟩ : ∃ fl1,M1.st.fl = fl1 := ⟨_,rfl⟩
    obtain ⟨ms1,hms1⟩ : ∃ ms1,M1.st.ms = ms1 := ⟨_,rfl⟩
    obtain ⟨lgs1,hlgs1⟩ : ∃ lgs1,M1.st.lg = lgs1 := ⟨_,rfl⟩
    rw [hep1,hfl1,hms1] at hcf5
    rw [hlgs1] at hlg5 HML
    rw [hms1] at HMR
    rw [hms1,hlgs1] at HLM1
    rw [hep1] at HEPM
    have HCF5 := hZ0 hcf5;have HLG5 := hZ0 hlg5
    have HN1 := hZ0 (And.intro hep1 (And.intro hfl1 (And.intro hms1 hlgs1)))
    clear hs5 hl5 hob hor hol ho5 hcf5 hlg5 hep1 hfl1 hms1 hlgs1 HDO4 HDO HLG0 HCF0
    go_wp2_with fail
    refine HCF5.out.mono ?_
    rintro e w6 ⟨A6,c6,rfl,hr6,hk6⟩
    obtain ⟨W6,hW6⟩ : ∃ W6,w6.alloc (.cells #[.int .i64 ep1,.slice A6 ms1.length c6,.int .u64 fl1] 25) = W6 := ⟨_,rfl⟩
    have hkw6 : Kept NoF w5 W6 := by rw [<- hW6];(repeat' (first | (with_reducible first | exact kR0 | apply kP0 | apply kN0 | apply kD0 | apply kA0) | (exact hk6) | (right;simp;done)))
    have hb6 : Has W6 w6.heap.size 25 #[.int .i64 ep1,.slice A6 ms1.length c6,.int .u64 fl1] := by rw [<- hW6];exact Has.new _ _ _
    have hr6' := NewSl.kept hr6 (w' := W6) (by rw [<- hW6];(repeat' (first | (with_reducible first | exact kR0 | apply kP0 | apply kN0 | apply kD0 | apply kA0) | (right;simp;done))))
    obtain ⟨nb,hnb⟩ : ∃ nb,w6.heap.size = nb := ⟨_,rfl⟩
    rw [hnb] at hb6
    have HB6 := hZ0 hb6;have HR6 := hZ0 hr6';have HK6 := hZ0 hkw6
    clear hb6 hr6' hkw6 hr6 hk6
    go_wp2_with fail
    clear hW6 hnb
    refine (HLG5.out W6 HK6.out).mono ?_
    rintro e w7 ⟨B7,d7,rfl,hl7,hk7⟩
    have hkw7 := HK6.out.then hk7
    have HL7 := hZ0 hl7;have HK7 := hZ0 hkw7
    have HB7 := hZ0 (HB6.out.kept hk7 (fun z => z));have HR7 := hZ0 (NewSl.kept HR6.out hk7)
    have HWB7 := hZ0 (HOB.out.kept hkw7 (fun z => z));have HWR7 := hZ0 (own_kept HOR.out hkw7 (fun _ _ z => z));have HWL7 := hZ0 (own_kept HOL.out hkw7 (fun _ _ z => z))
    clear hl7 hk7 hkw7 HLG5 HCF5
    have n0 : w7.cell? ⟨nb,0,none⟩ = some (.int .i64 ep1) := HB7.out.cell 0
    have n1 : w7.cell? ⟨nb,1,none⟩ = some (.slice A6 ms1.length c6) := HB7.out.cell 1
    have n2 : w7.cell? ⟨nb,2,none⟩ = some (.int .u64 fl1) := HB7.out.cell 2
    have hhd := rhead_any w7 ep1 fl1 A6 c6 ms1 m r HMR.out (Src.of_own HR7.out.1) (by have := HLM1.out;omega)
    have HHD := hZ0 hhd;clear hhd
    go_wp2_with fail
    clear n0 n1 n2
    refine HHD.out.mono ?_
    rintro e w8 ⟨rfl,hk8⟩
    have hin := in_any w8 B7 d7 lgs1 m.1 ((Src.of_own HL7.out.1).kept hk8 (fun _ _ z => z)) (by have := HLM1.out;omega)
    rw [inB_iff.2 HML.out] at hin
    have HIN := hZ0 hin;have HK8 := hZ0 hk8;clear hin hk8
    have w2' : w8.cell? ⟨wb,2,none⟩ = some (.int .u64 fl0) := (HWB7.out.kept HK8.out (fun z => z)).cell 2
    have n2' : w8.cell? ⟨nb,2,none⟩ = some (.int .u64 fl1) := (HB7.out.kept HK8.out (fun z => z)).cell 2
    have w0' : w8.cell? ⟨wb,0,none⟩ = some (.int .i64 ep0) := (HWB7.out.kept HK8.out (fun z => z)).cell 0
    have n0' : w8.cell? ⟨nb,0,none⟩ = some (.int .i64 ep1) := (HB7.out.kept HK8.out (fun z => z)).cell 0
    have w1' : w8.cell? ⟨wb,1,none⟩ = some (.slice A1 ms0.length c1) := (HWB7.out.kept HK8.out (fun z => z)).cell 1
    have n1' : w8.cell? ⟨nb,1,none⟩ = some (.slice A6 ms1.length c6) := (HB7.out.kept HK8.out (fun z => z)).cell 1
    have HO8 := hZ0 ((HO5.out.quiet HK7.out).quiet HK8.out)
    obtain ⟨e10,e11,e12,e13⟩ := HN1.out
    obtain ⟨e00,e01,e02,e03⟩ := HN0.out
    have hep1' : 1 <= M1.st.ep := HEP1.out
    rcases HREL.out with hg | ht
    ·have g1 := hg.ep
     have g2 := hg.ms
     have g3 := hg.fl
     have g4 := hg.lg
     rw [e10,e00] at g1
     rw [e12,e02] at g2
     rw [e11,e01] at g3
     rw [e13,e03] at g4
     subst g1 g2 g3
     have hsm := rsame_any w8 ep1 fl1 ep1 fl1 A6 A1 c6 c1 ms1 ms1 ((Src.of_own HR7.out.1).kept HK8.out (fun _ _ z => z)) ((Src.of_own HWR7.out).kept HK8.out (fun _ _ z => z)) (by have := HLM1.out;omega) (by have := HLM1.out;omega)
     have hb : (ep1 == ep1 && (fl1 == fl1 && eqL ms1 ms1)) = true := by simp [eqL]
     rw [hb] at hsm
     have HSM := hZ0 hsm
     have g5 : ¬ ((lgs1.length : Int) < (lgs0.length : Int)) := by omega
     have g6 : ¬ fl1 < fl1 := by omega
     have HG5 := hZ0 g5
     clear hsm hb hg g4 e10 e11 e12 e13 e00 e01 e02 e03 hep1'
     go_wp2_with fail
     refine HIN.out.mono ?_
     rintro e w9 ⟨rfl,rfl⟩
     go_wp2_with fail
     clear w0' w1' w2' n0' n1' n2'
     refine HSM.out.mono ?_
     rintro e w9 ⟨rfl,hk9⟩
     have HO9 := hZ0 (HO8.out.quiet hk9);clear hk9
     have g7 := HG5.out
     go_wp2_with fail
     go_roundw
     case rel => exact ⟨i + 1,M1,X2,by omega,by omega,by go_num,HO9.out,HOUT1.out,HEP1.out⟩
     case measure => simp [intOf];omega
    ·have g1 := ht.ep
     have g3 := ht.fl
     have g4 := ht.tr
     rw [e10,e00] at g1
     rw [e11,e01] at g3
     rw [e12,e13,e02,e03] at g4
     have hwrap : IntKind.i64.wrap (ep0 + 1) = ep0 + 1 := IntWalk.i64_in _ (by have := HEPM.out;omega)
     subst g1
     have g6 : ¬ fl1 < fl0 := by omega
     have g7 : (ep0 + 1 == ep0) = false := by simp;omega
     have HTR := hZ0 g4
     clear ht g3 g4 e10 e11 e12 e13 e00 e01 e02 e03 hep1'
     have hN1 := fun W (hW : Kept NoF w8 W) => (HB7.out.kept (HK8.out.then hW) (fun z => z)).cell 1
     have hW7 := fun W (hW : Kept NoF w8 W) => HWB7.out.kept (HK8.out.then hW) (fun z => z)
     have hmm := fun W (hW : Kept NoF w8 W) => (Src.of_own HR7.out.1).kept (HK8.out.then hW) (fun _ _ z => z)
     have hpl := fun W (x : Mem) (hW : Kept NoF w8 W) => rplace_any W ep0 fl0 A1 c1 ms0 x ((Src.of_own HWR7.out).kept (HK8.out.then hW) (fun _ _ z => z)) (by have := HLM.out;omega)
     have hi1 := fun W (x : Int) (hW : Kept NoF w8 W) => in_any W B7 d7 lgs1 x ((Src.of_own HL7.out.1).kept (HK8.out.then hW) (fun _ _ z => z)) (by have := HLM1.out;omega)
     have hi0 := fun W (x : Int) (hW : Kept NoF w8 W) => in_any W B1 d1 lgs0 x ((Src.of_own HWL7.out).kept (HK8.out.then hW) (fun _ _ z => z)) (by have := HLM.out;omega)
     have HN1' := hZ0 hN1;have HW7' := hZ0 hW7;have HMM := hZ0 hmm;have HPL := hZ0 hpl;have HI1 := hZ0 hi1;have HI0 := hZ0 hi0
     clear hN1 hW7 hmm hpl hi1 hi0
     go_wp2_with fail
     refine HIN.out.mono ?_
     rintro e w9 ⟨rfl,rfl⟩
     go_wp2_with fail
     clear w0' w1' w2' n0' n1' n2' hwrap g6 g7
     go_loopw [12,13] (fun v12 v13 wr => ∃ j : Nat,j <= ms1.length /\ v12 = .int .i64 j /\ Kept NoF w8 wr) (fun v12 _ _ => ms1.length - (intOf v12).toNat)
     case atStart => exact ⟨0,Nat.zero_le _,rfl,Kept.refl _ _⟩
     case round =>
      obtain ⟨j,hj,rfl,hk⟩ := hrel
      have hms4 : ms1.length <= 1000 := HLM1.out.1
      have n1' : wr.cell? ⟨nb,1,none⟩ = some (.slice A6 ms1.length c6) := HN1'.out wr hk
      by_cases hjl : j < ms1.length
      ·obtain ⟨x,hx⟩ : ∃ x,ms1[j]? = some x := ⟨_,List.getElem?_eq_getElem hjl⟩
       obtain ⟨ad6,rfl,had6,d0,d1'⟩ := mem_cells (HMM.out wr hk) (by omega) j x hx
       have htr := HTR.out x (List.mem_of_getElem? hx)
       obtain ⟨W9,hW9⟩ : ∃ W9,wr.alloc (.cells #[.int .i64 x.1,.int .i64 x.2] 53) = W9 := ⟨_,rfl⟩
       have hk9 : Kept NoF wr W9 := by rw [<- hW9];(repeat' (first | (with_reducible first | exact kR0 | apply kP0 | apply kN0 | apply kD0 | apply kA0) | (right;simp;done)))
       have hx9 : Has W9 wr.heap.size 53 #[.int .i64 x.1,.int .i64 x.2] := by rw [<- hW9];exact Has.new _ _ _
       have p0 : W9.cell? ⟨wr.heap.size,0,none⟩ = some (.int .i64 x.1) := hx9.cell 0
       have p1 : W9.cell? ⟨wr.heap.size,1,none⟩ = some (.int .i64 x.2) := hx9.cell 1
       have w0' : W9.cell? ⟨wb,0,none⟩ = some (.int .i64 ep0) := (HW7'.out W9 (hk.then hk9)).cell 0
       have w1' : W9.cell? ⟨wb,1,none⟩ = some (.slice A1 ms0.length c1) := (HW7'.out W9 (hk.then hk9)).cell 1
       have w2' : W9.cell? ⟨wb,2,none⟩ = some (.int .u64 fl0) := (HW7'.out W9 (hk.then hk9)).cell 2
       have hin1 := HI1.out W9 x.1 (hk.then hk9)
       have hpl := HPL.out W9 x (hk.then hk9)
       have hin0 := fun W (hW : Kept NoF W9 W) => HI0.out W x.1 ((hk.then hk9).then hW)
       have hq0 := fun W (hW : Kept NoF W9 W) => (hx9.kept hW (fun z => z)).cell 0
       obtain ⟨b,hb⟩ : ∃ b,inB lgs1 x.1 = b := ⟨_,rfl⟩
       rw [hb] at hin1
       have HK9 := hZ0 (hk.then hk9);have HIN1 := hZ0 hin1
       obtain ⟨x1,x2⟩ := x
       dsimp only at hW9 p0 p1 d0 d1' hb htr hin1 hin0 hq0 HIN1
       have HPL9 := hZ0 hpl;have HIN0 := hZ0 hin0;have HQ0 := hZ0 hq0;have HTR9 := hZ0 htr;have HB := hZ0 hb
       clear hin1 hpl hin0 hq0 htr hb hx hk9 hx9 hk
       cases b
       ·go_wp2_with fail
        clear d0 d1' n1'
        refine HIN1.out.mono ?_
        rintro e w10 ⟨rfl,rfl⟩
        go_wp2_with fail
        go_roundw
        case rel => exact ⟨j + 1,by omega,by go_num,HK9.out⟩
        case measure => simp [intOf];omega
       ·obtain ⟨t1,t2⟩ := HTR9.out (inB_iff.1 HB.out)
        have HT2 := hZ0 (inB_iff.2 t2);have HT1 := hZ0 t1
        clear t1 t2
        go_wp2_with fail
        clear d0 d1' n1'
        refine HIN1.out.mono ?_
        rintro e w10 ⟨rfl,rfl⟩
        go_wp2_with fail
        clear p0 p1 w0' w1' w2' hW9
        refine HPL9.out.mono ?_
        rintro e w11 ⟨⟨n,rfl,hn⟩,hk11⟩
        obtain ⟨n',rfl⟩ := Int.eq_ofNat_of_zero_le (hn.2 HT1.out)
        have p0 := HQ0.out w11 hk11
        have hin0 := HIN0.out w11 hk11
        rw [HT2.out] at hin0
        simp only [List.getElem?_toArray,List.getElem?_cons_zero] at p0
        have HIN00 := hZ0 hin0;have HK11 := hZ0 (HK9.out.then hk11)
        clear hn hin0 hk11
        go_wp2_with fail
        clear p0
        refine HIN00.out.mono ?_
        rintro e w12 ⟨rfl,rfl⟩
        go_wp2_with fail
        go_roundw
        case rel => exact ⟨j + 1,by omega,by go_num,HK11.out⟩
        case measure => simp [intOf];omega
      ·obtain rfl : j = ms1.length := by omega
       have HO9 := hZ0 (HO8.out.quiet hk)
       clear hk
       go_wp2_with fail
       go_roundw
       case rel => exact ⟨i + 1,M1,X2,by omega,by omega,by go_num,HO9.out,HOUT1.out,HEP1.out⟩
       case measure => simp [intOf];omega
   ·obtain rfl : i = 60 := by omega
    have HKW := hZ0 ho.kp
    clear ho hout hep hdone
    go_wp2_with fail
    refine (HAW.out _).mono ?_
    rintro e w3 ⟨rfl,hk3⟩
    have HE := hZ0 (HEND.out _ (HKW.out.then hk3));clear hk3
    go_wp2
    go_ret
    exact ⟨rfl,HE.out⟩
  ·obtain rfl : i = acts.length := by omega
   have HKW := hZ0 ho.kp
   clear ho hout hep hdone
   go_wp2_with fail
   refine (HAW.out _).mono ?_
   rintro e w3 ⟨rfl,hk3⟩
   have HE := hZ0 (HEND.out _ (HKW.out.then hk3));clear hk3
   go_wp2
   go_ret
   exact ⟨rfl,HE.out⟩
end Mas
end Go.Proofs.YtolkgbafebehfaaGreat

/- Part 36 of what the proof needs. -/
import Derived.Test.YtgbigpdiacjbgaaGreatKO34
set_option linter.unusedSimpArgs false
set_option linter.unusedVariables false
set_option maxHeartbeats 32000000
set_option maxRecDepth 100000
namespace Go.Proofs.YtgbigpdiacjbgaaGreat
open Go.RowKit
set_option maxRecDepth 100000
namespace Cli
open Plan Ops Ent Msg Vn Go.Proofs.YtgbigpdiacjbgaaGreat.Ask
attribute [local go_sem ↓] storeVar_msg loadVar_msg
attribute [local go_sem] run_loadMsg
section
variable {w w' : World} {X X' : CX} {C C' : CLR}
theorem deliver_task (h : ClAt w X C) {t : TS} (ht : C.t = some t) (hj : JOk t) (hat : atOk t) (f : Int) (s : ByteArray) (hs : 0 < s.size) (hsm : s.size <= maxLen) (hb : s[0].toNat = 77) (hz : (Mof.ofM (s.extract 1 s.size)).2 = 0) : Calls Tryz.prog 11 #[.pointer (some ⟨X.cb,0,none⟩),.int .i64 f,.string s] w (SendPost w X C (delivM C f (Mof.ofM (s.extract 1 s.size)).1).1 (delivM C f (Mof.ofM (s.extract 1 s.size)).1).2) := by
 have HN := hZ0 (cnone_any h)
 have hne := nempty hs
 have hof := Mof.mof_any w (s.extract 1 s.size) (by rw [ByteArray.size_extract];omega)
 unfold Mof.OfPost at hof
 have hks := Mof.ofM_ps (s.extract 1 s.size)
 obtain ⟨V,hV⟩ : ∃ V,Mof.ofM (s.extract 1 s.size) = V := ⟨_,rfl⟩
 rw [hV] at hof hz hks ⊢
 rw [hz] at hof
 have HOF := hZ0 hof;have H := hZ0 h;have HT := hZ0 ht;have HJ := hZ0 (And.intro hj hat);have HKS := hZ0 hks
 generalize hQ : SendPost w X C (delivM C f V.1).1 (delivM C f V.1).2 = Q
 have HQ := hZ0 hQ
 clear hof hz h ht hj hat hks hQ hV
 obtain ⟨cb,hcb⟩ : ∃ cb,X.cb = cb := ⟨_,rfl⟩
 rw [hcb] at HN ⊢
 have HCB := hZ0 hcb;clear hcb
 go_enter Tryz.func11,Tryz.ntmps11
 go_wp2_with fail
 refine HN.out.mono ?_
 rintro e w2 ⟨rfl,rfl⟩
 go_wp2_with fail
 refine HOF.out.mono ?_
 rintro e w3 ⟨x,rfl,hsx,hxa,hk3⟩
 obtain ⟨Wz,W4,hWz,hst4,hb4,hk4⟩ := lay_msg w3 x
 have HW4 := hZ0 (CStep.refl H.out (hk3.then hk4))
 have HXA := hZ0 (hxa.kept hk4 (fun k hk => hk.elim))
 have HSX := hZ0 hsx
 obtain ⟨bm,hbm⟩ : ∃ bm,w3.heap.size = bm := ⟨_,rfl⟩
 have hbw : w.heap.size <= bm := by have := hk3.size;omega
 rw [hbm] at hst4 hb4
 have HB4 := hZ0 hb4;have HBW := hZ0 hbw
 unfold xagg
 obtain ⟨cs,hcs⟩ : ∃ cs,(xcell x).toArray = cs := ⟨_,rfl⟩
 rw [hcs] at hst4 ⊢
 have HCS := hZ0 hcs
 clear hk3 hk4 hsx hxa hb4 hcs hbw
 go_wp2_with fail
 clear hWz hst4 hbm
 refine (outs_any W4).mono ?_
 rintro e w6 ⟨lb,rfl,hbx,hlb,hk6⟩
 have HW6 := hZ0 (Way.new HW4.out hbx hlb hk6)
 have hlm := run_loadMsg_has w6 bm x (HB4.out.kept hk6 (fun z => z))
 rw [HCS.out] at hlm
 have hxa6 := HXA.out.kept hk6 (fun k hk => hk.elim)
 have hln := learn_any HW6.out.st.at' f x (hxa6.mono (Nat.zero_le _))
 unfold xagg at hln
 rw [HCS.out,HCB.out] at hln
 obtain ⟨lv,hlv⟩ : ∃ lv,(learnC C f x).2 = lv := ⟨_,rfl⟩
 rw [hlv] at hln
 have HLN := hZ0 hln;have HXA6 := hZ0 hxa6;have HLV := hZ0 hlv
 have HK6 := hZ0 hk6;have HLB := hZ0 hlb
 clear hbx hlb hk6 hxa6 hln hlv
 go_wp2_with fail
 clear hlm
 refine HLN.out.mono ?_
 rintro e w7 ⟨rfl,hs7⟩
 have HW7 := hZ0 (HW6.out.step hs7)
 obtain ⟨C1,hC1⟩ : ∃ C1,(learnC C f x).1 = C1 := ⟨_,rfl⟩
 have ht1 : C1.t = some t := by rw [<- hC1];exact (learn_t C f x).1.trans HT.out
 rw [hC1] at HW7
 have hb7 := HW7.out.st.at'.b
 rw [HCB.out] at hb7
 have y4 : w7.cell? ⟨cb,4,none⟩ = some (tptr X C1) := hb7.cell 4
 rw [tptr_some ht1] at y4
 have hwr := pwrites_any (HW7.out.st.at'.t t ht1).1
 have HT1 := hZ0 ht1;have HC1 := hZ0 hC1
 have hk67 := hs7.k
 have hka := Kept.trans (Kept.up' HK6.out) hk67 (fun _ z => .inl z)
 have HKA := hZ0 hka;have HWR := hZ0 hwr
 have hxk : ∀ W,Kept (cfoot X C) W4 W -> Mof.XAt W w.heap.size x /\ Has W bm 63 (xcell x).toArray := fun W hW => ⟨HXA.out.kept hW (fun k hk => H.out.lt hk),HB4.out.kept hW (fun hc => by have := H.out.lt hc;have := HBW.out;omega)⟩
 have HXK := hZ0 hxk
 clear hs7 hb7 ht1 hC1 hk67 hka hxk hwr HW6 HXA6 HLN HW4 HOF HN HXA HB4 HK6
 obtain ⟨tb,htb⟩ : ∃ tb,X.px.b = tb := ⟨_,rfl⟩
 rw [htb] at y4 HWR
 have HTB := hZ0 htb;clear htb
 obtain ⟨wv,hwv⟩ : ∃ wv,writesT t = wv := ⟨_,rfl⟩
 have hwr : Calls Tryz.prog 31 #[.pointer (some ⟨tb,0,none⟩)] w7 fun e w' => e = .returned (.bool wv) /\ Kept NoF w7 w' := by rw [<- hwv];exact HWR.out
 have HWR2 := hZ0 hwr;have HWV := hZ0 hwv
 clear hwr hwv HWR
 -- what Take needs,in any world that is quiet behind a way's
 have htk : ∀ W A c L,Way w X C W X C1 lb A c L -> Mof.XAt W w.heap.size x -> Calls Tryz.prog 32 #[.pointer (some ⟨tb,0,none⟩),.int .i64 f,.agg cs] W (PPost W X.px t (.bool (takeT t f x).2) (takeT t f x).1) := fun W A c L hw hxx => by
  have h1 := ptake_any (hw.st.at'.t t HT1.out).1 HJ.out.1.ok f x ⟨hxx.p,⟨hxx.pc,hxx.pm⟩,fun _ ad e hf => by
   have h2 := hxx.pn ad e
   have h3 := H.out.lt (.inr (.inl ⟨t,HT.out,hf⟩))
   omega,fun q hq => by
   have h2 := HKS.out q (by rw [<- HSX.out];exact hq)
   exact Nat.le_trans h2.1 (by unfold maxLen;decide)⟩
  unfold xagg at h1
  rw [HTB.out,HCS.out] at h1
  exact h1
 have HTK := hZ0 htk;clear htk
 cases lv
 ·have HWA := hZ0 HW7.out
  have HXZ := hZ0 (HXK.out _ HKA.out).1;have HBZ := hZ0 (HXK.out _ HKA.out).2
  have htk7 : ∀ W,Kept NoF w7 W -> Calls Tryz.prog 32 #[.pointer (some ⟨tb,0,none⟩),.int .i64 f,.agg cs] W (PPost W X.px t (.bool (takeT t f x).2) (takeT t f x).1) := fun W hW => HTK.out W _ _ _ (HWA.out.quiet hW) (HXZ.out.kept hW (fun _ z => z.elim))
  have HTK7 := hZ0 htk7;clear htk7
  have hS : ∀ W,Kept (foot X.px t) w7 W -> W.cell? ⟨cb,4,none⟩ = some (.pointer (some ⟨tb,0,none⟩)) /\ MsgIn W ⟨bm,0,none⟩ /\ msgAt W ⟨bm,0,none⟩ = cs := fun W hW => by
   have h1 := HWA.out.st.at'.b.kept hW (H.out.t t HT.out).2
   rw [HCB.out] at h1
   have h4 : W.cell? ⟨cb,4,none⟩ = some (tptr X C1) := h1.cell 4
   rw [tptr_some HT1.out,HTB.out] at h4
   have h5 := msgIn_of (cs := xcell x) rfl (w := W) (a := ⟨bm,0,none⟩) (fun j u hu => by
    have e1 : ((⟨bm,0,none⟩ : Addr).add j) = ⟨bm,j,none⟩ := by unfold Addr.add;split <;> simp_all
    rw [e1,(HBZ.out.kept hW (fun hf => by have h3 := H.out.lt (.inr (.inl ⟨t,HT.out,hf⟩));have := HBW.out;omega)).cell]
    simpa using hu)
   rw [HCS.out] at h5
   exact ⟨h4,h5⟩
  have HS := hZ0 hS
  obtain ⟨s1,s2,s3⟩ := hS w7 (Kept.refl _ _)
  clear hS
  go_wp2_with fail
  go_region_held3 (fun W => W.cell? ⟨cb,4,none⟩ = some (.pointer (some ⟨tb,0,none⟩)) /\ MsgIn W ⟨bm,0,none⟩ /\ msgAt W ⟨bm,0,none⟩ = cs) (first | with_reducible exact s9 | with_reducible exact ⟨s1,s2,s3⟩ | (refine HS.out _ (Kept.up' ?_);(repeat' (first | (with_reducible first | exact kR0 | apply kP0 | apply kN0 | apply kD0 | apply kA0) | (right;simp;done)));done))
   (first | (go_at_call 32;refine (HTK7.out _ (by (repeat' (first | (with_reducible first | exact kR0 | apply kP0 | apply kN0 | apply kD0 | apply kA0) | (right;simp;done))))).mono ?_;intro e w9 hp;obtain ⟨rfl,X9,p1,p2,p3,p4⟩ := hp;have hk9 : Kept (foot X.px t) w7 w9 := Kept.trans (Kept.up' (by (repeat' (first | (with_reducible first | exact kR0 | apply kP0 | apply kN0 | apply kD0 | apply kA0) | (right;simp;done))))) p4 (fun _ z => .inl z);have s9 := HS.out w9 hk9;have HP9 := hZ0 (And.intro p1 (And.intro p2 p3));have HK9 := hZ0 hk9;clear p1 p2 p3 p4 hk9))
  have hgo := HWA.out.st.at'.go HT1.out HP9.out.1 HP9.out.2.1 HP9.out.2.2 HK9.out
  have hw9 := HWA.out.step hgo
  obtain ⟨t',ht'⟩ : ∃ t',(takeT t f x).1 = t' := ⟨_,rfl⟩
  obtain ⟨tv,htv⟩ : ∃ tv,(takeT t f x).2 = tv := ⟨_,rfl⟩
  rw [ht'] at hw9
  rw [htv]
  have HW9 := hZ0 hw9;have HTT := hZ0 (And.intro ht' htv)
  have hj' : JOk t' := by rw [<- ht'];exact HJ.out.1.take f x
  have hat' : atOk t' := by rw [<- ht'];exact HJ.out.2.take f HXZ.out.t.1
  have HJ' := hZ0 (And.intro hj' hat');clear hj' hat'
  have hrl : t'.r.ps.length <= 1000 := by rw [<- ht'];exact (HJ.out.1.take f x).rl
  have hse : ∀ W,ClAt W { X with px := X9 } { C1 with t := some t' } -> Calls Tryz.prog 33 #[.pointer (some ⟨cb,0,none⟩)] W fun e w' => e = .returned (.tuple #[]) /\ ∃ X',CStep W { X with px := X9 } { C1 with t := some t' } w' X' (seeC { C1 with t := some t' }) := fun W hc => by rw [<- HCB.out];exact see_any hc (t := t') rfl hrl
  have HSE := hZ0 hse
  clear hgo hw9 ht' htv s9 s1 s2 s3 y4 hrl hse HWA
  cases tv
  ·go_wp2_with fail
   refine (HSE.out w9 HW9.out.st.at').mono ?_
   rintro e w10 ⟨rfl,X10,hs10⟩
   have HW10 := hZ0 (HW9.out.step hs10)
   clear hs10
   go_wp2_with fail
   refine (told_any HW10.out.bx).mono ?_
   rintro e w11 ⟨rfl,rfl⟩
   have hfin := HW10.out.out
   have hd : delivM C f V.1 = (seeC { C1 with t := some t' },[]) := by
    rw [<- HSX.out,delivM_strip]
    unfold delivM
    rw [HT.out]
    dsimp only
    rw [HTT.out.1,HTT.out.2,HC1.out,HLV.out]
    rfl
   have hq := HQ.out
   rw [hd] at hq
   dsimp only at hq
   rw [hq] at hfin
   have HF := hZ0 hfin
   clear hfin hq hd
   go_wp2
   exact HF.out
  ·have hcl : ∀ W,ClAt W { X with px := X9 } { C1 with t := some t' } -> W.cell? ⟨cb,4,none⟩ = some (.pointer (some ⟨tb,0,none⟩)) /\ W.cell? ⟨cb,2,none⟩ = some (.int .i64 C1.ep) /\ W.cell? ⟨cb,3,none⟩ = some (.int .i64 C1.hd) := fun W hc => by
    have h1 := hc.b
    have h2 : Has W cb 38 (ccells { X with px := X9 } { C1 with t := some t' }) := by rw [<- HCB.out];exact h1
    have h4 : W.cell? ⟨cb,4,none⟩ = some (tptr { X with px := X9 } { C1 with t := some t' }) := h2.cell 4
    rw [tptr_some (C := { C1 with t := some t' }) rfl] at h4
    dsimp only at h4
    rw [HP9.out.2.1,HTB.out] at h4
    exact ⟨h4,h2.cell 2,h2.cell 3⟩
   have HCL := hZ0 hcl
   have hbo : t'.bo.length <= 1000 := Nat.le_trans (Ops.chk_ok HJ'.out.1.b).2.2.2.2.1 (by decide)
   have hnx : ∀ W,Kept NoF w9 W -> Calls Tryz.prog 27 #[.pointer (some ⟨tb,0,none⟩),.int .i64 C1.ep,.int .i64 C1.hd] W (Ask.NextPost W t' C1.ep C1.hd) := fun W hW => by
    have h1 := pnext_any ((HW9.out.quiet hW).st.at'.t t' rfl).1 HJ'.out.1.ok hbo C1.ep C1.hd
    dsimp only at h1
    rw [HP9.out.2.1,HTB.out] at h1
    exact h1
   unfold Ask.NextPost at hnx
   have hxo := fun W A c (hs : Src W 3 A (nextT t' C1.ep C1.hd).2.ops.length (cells (nextT t' C1.ep C1.hd).2.ops)) => nextX HJ'.out.2 C1.ep C1.hd (c := c) hs
   obtain ⟨p,hp⟩ : ∃ p,nextT t' C1.ep C1.hd = p := ⟨_,rfl⟩
   simp only [hp] at hnx hxo
   have HPP := hZ0 hp;have HNX := hZ0 hnx;have HXO := hZ0 hxo
   clear hnx hxo hp hcl hbo
   have s6 := HCL.out w9 HW9.out.st.at'
   go_wp2_with fail
   go_region_held3 (fun W => W.cell? ⟨cb,4,none⟩ = some (.pointer (some ⟨tb,0,none⟩)) /\ W.cell? ⟨cb,2,none⟩ = some (.int .i64 C1.ep) /\ W.cell? ⟨cb,3,none⟩ = some (.int .i64 C1.hd)) (first | with_reducible exact s8 | with_reducible exact s7 | with_reducible exact s6 | (refine HCL.out _ (HW9.out.quiet ?_).st.at';(repeat' (first | (with_reducible first | exact kR0 | apply kP0 | apply kN0 | apply kD0 | apply kA0) | (right;simp;done)));done))
    (first
     | (go_at_call 27;refine (HNX.out _ (by (repeat' (first | (with_reducible first | exact kR0 | apply kP0 | apply kN0 | apply kD0 | apply kA0) | (right;simp;done))))).mono ?_;rintro e w10 ⟨A7,c7,rfl,hs7,hc7,-,hk7⟩;have hkk := Kept.then (F := NoF) (a := w9) (by (repeat' (first | (with_reducible first | exact kR0 | apply kP0 | apply kN0 | apply kD0 | apply kA0) | (right;simp;done)))) hk7;have hw7 := HW9.out.quiet hkk;have s7 := HCL.out w10 hw7.st.at';have HX10 := hZ0 (HXO.out w10 A7 c7 hs7);have HW10 := hZ0 hw7;clear hs7 hc7 hk7 hkk hw7)
     | (go_at_call 52;refine (put_any HW10.out.bx (by decide) _ _ HX10.out).mono ?_;intro e w11 hpp;obtain ⟨rfl,A8,c8,hw8,-⟩ := HW10.out.put hpp;have s8 := HCL.out w11 hw8.st.at';have HW11 := hZ0 hw8;clear hw8 hpp))
   clear s6 s7
   have e1 : putO [] p.1 { p.2 with oA := A7,oc := c7 } = putO [] (nextT t' C1.ep C1.hd).1 (nextT t' C1.ep C1.hd).2 := by rw [HPP.out];rfl
   rw [e1] at HW11
   clear e1
   go_wp2_with fail
   refine (HSE.out w11 HW11.out.st.at').mono ?_
   rintro e w12 ⟨rfl,X12,hs12⟩
   have HW12 := hZ0 (HW11.out.step hs12)
   clear hs12 s8
   go_wp2_with fail
   refine (told_any HW12.out.bx).mono ?_
   rintro e w13 ⟨rfl,rfl⟩
   have hfin := HW12.out.out
   have hd : delivM C f V.1 = (seeC { C1 with t := some t' },putO [] (nextT t' C1.ep C1.hd).1 (nextT t' C1.ep C1.hd).2) := by
    rw [<- HSX.out,delivM_strip]
    unfold delivM
    rw [HT.out]
    dsimp only
    rw [HTT.out.1,HTT.out.2,HC1.out,HLV.out]
    rfl
   have hq := HQ.out
   rw [hd] at hq
   dsimp only at hq
   rw [hq] at hfin
   have HF := hZ0 hfin
   clear hfin hq hd
   go_wp2
   exact HF.out
 ·have hcl : ∀ W,ClAt W X C1 -> W.cell? ⟨cb,4,none⟩ = some (.pointer (some ⟨tb,0,none⟩)) /\ W.cell? ⟨cb,2,none⟩ = some (.int .i64 C1.ep) /\ W.cell? ⟨cb,3,none⟩ = some (.int .i64 C1.hd) := fun W hc => by
   have h1 := hc.b
   have h2 : Has W cb 38 (ccells X C1) := by rw [<- HCB.out];exact h1
   have h4 : W.cell? ⟨cb,4,none⟩ = some (tptr X C1) := h2.cell 4
   rw [tptr_some HT1.out,HTB.out] at h4
   exact ⟨h4,h2.cell 2,h2.cell 3⟩
  have HCL0 := hZ0 hcl
  clear hcl
  go_wp2_with fail
  refine HWR2.out.mono ?_
  rintro e w8 ⟨rfl,hk8⟩
  have HW8 := hZ0 (HW7.out.quiet hk8);have HKB := hZ0 (Kept.trans HKA.out hk8 (fun _ z => z.elim))
  clear hk8 HWR2 HW7 y4
  cases wv
  ·have HWA := hZ0 HW8.out
   have HXZ := hZ0 (HXK.out _ HKB.out).1;have HBZ := hZ0 (HXK.out _ HKB.out).2
   have htk7 : ∀ W,Kept NoF w8 W -> Calls Tryz.prog 32 #[.pointer (some ⟨tb,0,none⟩),.int .i64 f,.agg cs] W (PPost W X.px t (.bool (takeT t f x).2) (takeT t f x).1) := fun W hW => HTK.out W _ _ _ (HWA.out.quiet hW) (HXZ.out.kept hW (fun _ z => z.elim))
   have HTK7 := hZ0 htk7;clear htk7
   have hS : ∀ W,Kept (foot X.px t) w8 W -> W.cell? ⟨cb,4,none⟩ = some (.pointer (some ⟨tb,0,none⟩)) /\ MsgIn W ⟨bm,0,none⟩ /\ msgAt W ⟨bm,0,none⟩ = cs := fun W hW => by
    have h1 := HWA.out.st.at'.b.kept hW (H.out.t t HT.out).2
    rw [HCB.out] at h1
    have h4 : W.cell? ⟨cb,4,none⟩ = some (tptr X C1) := h1.cell 4
    rw [tptr_some HT1.out,HTB.out] at h4
    have h5 := msgIn_of (cs := xcell x) rfl (w := W) (a := ⟨bm,0,none⟩) (fun j u hu => by
     have e1 : ((⟨bm,0,none⟩ : Addr).add j) = ⟨bm,j,none⟩ := by unfold Addr.add;split <;> simp_all
     rw [e1,(HBZ.out.kept hW (fun hf => by have h3 := H.out.lt (.inr (.inl ⟨t,HT.out,hf⟩));have := HBW.out;omega)).cell]
     simpa using hu)
    rw [HCS.out] at h5
    exact ⟨h4,h5⟩
   have HS := hZ0 hS
   obtain ⟨s1,s2,s3⟩ := hS w8 (Kept.refl _ _)
   clear hS
   go_wp2_with fail
   go_region_held3 (fun W => W.cell? ⟨cb,4,none⟩ = some (.pointer (some ⟨tb,0,none⟩)) /\ MsgIn W ⟨bm,0,none⟩ /\ msgAt W ⟨bm,0,none⟩ = cs) (first | with_reducible exact s9 | with_reducible exact ⟨s1,s2,s3⟩ | (refine HS.out _ (Kept.up' ?_);(repeat' (first | (with_reducible first | exact kR0 | apply kP0 | apply kN0 | apply kD0 | apply kA0) | (right;simp;done)));done))
    (first | (go_at_call 32;refine (HTK7.out _ (by (repeat' (first | (with_reducible first | exact kR0 | apply kP0 | apply kN0 | apply kD0 | apply kA0) | (right;simp;done))))).mono ?_;intro e w9 hp;obtain ⟨rfl,X9,p1,p2,p3,p4⟩ := hp;have hk9 : Kept (foot X.px t) w8 w9 := Kept.trans (Kept.up' (by (repeat' (first | (with_reducible first | exact kR0 | apply kP0 | apply kN0 | apply kD0 | apply kA0) | (right;simp;done))))) p4 (fun _ z => .inl z);have s9 := HS.out w9 hk9;have HP9 := hZ0 (And.intro p1 (And.intro p2 p3));have HK9 := hZ0 hk9;clear p1 p2 p3 p4 hk9))
   have hgo := HWA.out.st.at'.go HT1.out HP9.out.1 HP9.out.2.1 HP9.out.2.2 HK9.out
   have hw9 := HWA.out.step hgo
   obtain ⟨t',ht'⟩ : ∃ t',(takeT t f x).1 = t' := ⟨_,rfl⟩
   obtain ⟨tv,htv⟩ : ∃ tv,(takeT t f x).2 = tv := ⟨_,rfl⟩
   rw [ht'] at hw9
   rw [htv]
   have HW9 := hZ0 hw9;have HTT := hZ0 (And.intro ht' htv)
   have hj' : JOk t' := by rw [<- ht'];exact HJ.out.1.take f x
   have hat' : atOk t' := by rw [<- ht'];exact HJ.out.2.take f HXZ.out.t.1
   have HJ' := hZ0 (And.intro hj' hat');clear hj' hat'
   have hrl : t'.r.ps.length <= 1000 := by rw [<- ht'];exact (HJ.out.1.take f x).rl
   have hse : ∀ W,ClAt W { X with px := X9 } { C1 with t := some t' } -> Calls Tryz.prog 33 #[.pointer (some ⟨cb,0,none⟩)] W fun e w' => e = .returned (.tuple #[]) /\ ∃ X',CStep W { X with px := X9 } { C1 with t := some t' } w' X' (seeC { C1 with t := some t' }) := fun W hc => by rw [<- HCB.out];exact see_any hc (t := t') rfl hrl
   have HSE := hZ0 hse
   clear hgo hw9 ht' htv s9 s1 s2 s3 hrl hse HWA
   cases tv
   ·go_wp2_with fail
    refine (HSE.out w9 HW9.out.st.at').mono ?_
    rintro e w10 ⟨rfl,X10,hs10⟩
    have HW10 := hZ0 (HW9.out.step hs10)
    clear hs10
    go_wp2_with fail
    refine (told_any HW10.out.bx).mono ?_
    rintro e w11 ⟨rfl,rfl⟩
    have hfin := HW10.out.out
    have hd : delivM C f V.1 = (seeC { C1 with t := some t' },[]) := by
     rw [<- HSX.out,delivM_strip]
     unfold delivM
     rw [HT.out]
     dsimp only
     rw [HTT.out.1,HTT.out.2,HC1.out,HLV.out,HWV.out]
     rfl
    have hq := HQ.out
    rw [hd] at hq
    dsimp only at hq
    rw [hq] at hfin
    have HF := hZ0 hfin
    clear hfin hq hd
    go_wp2
    exact HF.out
   ·have hcl : ∀ W,ClAt W { X with px := X9 } { C1 with t := some t' } -> W.cell? ⟨cb,4,none⟩ = some (.pointer (some ⟨tb,0,none⟩)) /\ W.cell? ⟨cb,2,none⟩ = some (.int .i64 C1.ep) /\ W.cell? ⟨cb,3,none⟩ = some (.int .i64 C1.hd) := fun W hc => by
     have h1 := hc.b
     have h2 : Has W cb 38 (ccells { X with px := X9 } { C1 with t := some t' }) := by rw [<- HCB.out];exact h1
     have h4 : W.cell? ⟨cb,4,none⟩ = some (tptr { X with px := X9 } { C1 with t := some t' }) := h2.cell 4
     rw [tptr_some (C := { C1 with t := some t' }) rfl] at h4
     dsimp only at h4
     rw [HP9.out.2.1,HTB.out] at h4
     exact ⟨h4,h2.cell 2,h2.cell 3⟩
    have HCL := hZ0 hcl
    have hbo : t'.bo.length <= 1000 := Nat.le_trans (Ops.chk_ok HJ'.out.1.b).2.2.2.2.1 (by decide)
    have hnx : ∀ W,Kept NoF w9 W -> Calls Tryz.prog 27 #[.pointer (some ⟨tb,0,none⟩),.int .i64 C1.ep,.int .i64 C1.hd] W (Ask.NextPost W t' C1.ep C1.hd) := fun W hW => by
     have h1 := pnext_any ((HW9.out.quiet hW).st.at'.t t' rfl).1 HJ'.out.1.ok hbo C1.ep C1.hd
     dsimp only at h1
     rw [HP9.out.2.1,HTB.out] at h1
     exact h1
    unfold Ask.NextPost at hnx
    have hxo := fun W A c (hs : Src W 3 A (nextT t' C1.ep C1.hd).2.ops.length (cells (nextT t' C1.ep C1.hd).2.ops)) => nextX HJ'.out.2 C1.ep C1.hd (c := c) hs
    obtain ⟨p,hp⟩ : ∃ p,nextT t' C1.ep C1.hd = p := ⟨_,rfl⟩
    simp only [hp] at hnx hxo
    have HPP := hZ0 hp;have HNX := hZ0 hnx;have HXO := hZ0 hxo
    clear hnx hxo hp hcl hbo
    have s6 := HCL.out w9 HW9.out.st.at'
    go_wp2_with fail
    go_region_held3 (fun W => W.cell? ⟨cb,4,none⟩ = some (.pointer (some ⟨tb,0,none⟩)) /\ W.cell? ⟨cb,2,none⟩ = some (.int .i64 C1.ep) /\ W.cell? ⟨cb,3,none⟩ = some (.int .i64 C1.hd)) (first | with_reducible exact s8 | with_reducible exact s7 | with_reducible exact s6 | (refine HCL.out _ (HW9.out.quiet ?_).st.at';(repeat' (first | (with_reducible first | exact kR0 | apply kP0 | apply kN0 | apply kD0 | apply kA0) | (right;simp;done)));done))
     (first
      | (go_at_call 27;refine (HNX.out _ (by (repeat' (first | (with_reducible first | exact kR0 | apply kP0 | apply kN0 | apply kD0 | apply kA0) | (right;simp;done))))).mono ?_;rintro e w10 ⟨A7,c7,rfl,hs7,hc7,-,hk7⟩;have hkk := Kept.then (F := NoF) (a := w9) (by (repeat' (first | (with_reducible first | exact kR0 | apply kP0 | apply kN0 | apply kD0 | apply kA0) | (right;simp;done)))) hk7;have hw7 := HW9.out.quiet hkk;have s7 := HCL.out w10 hw7.st.at';have HX10 := hZ0 (HXO.out w10 A7 c7 hs7);have HW10 := hZ0 hw7;clear hs7 hc7 hk7 hkk hw7)
      | (go_at_call 52;refine (put_any HW10.out.bx (by decide) _ _ HX10.out).mono ?_;intro e w11 hpp;obtain ⟨rfl,A8,c8,hw8,-⟩ := HW10.out.put hpp;have s8 := HCL.out w11 hw8.st.at';have HW11 := hZ0 hw8;clear hw8 hpp))
    clear s6 s7
    have e1 : putO [] p.1 { p.2 with oA := A7,oc := c7 } = putO [] (nextT t' C1.ep C1.hd).1 (nextT t' C1.ep C1.hd).2 := by rw [HPP.out];rfl
    rw [e1] at HW11
    clear e1
    go_wp2_with fail
    refine (HSE.out w11 HW11.out.st.at').mono ?_
    rintro e w12 ⟨rfl,X12,hs12⟩
    have HW12 := hZ0 (HW11.out.step hs12)
    clear hs12 s8
    go_wp2_with fail
    refine (told_any HW12.out.bx).mono ?_
    rintro e w13 ⟨rfl,rfl⟩
    have hfin := HW12.out.out
    have hd : delivM C f V.1 = (seeC { C1 with t := some t' },putO [] (nextT t' C1.ep C1.hd).1 (nextT t' C1.ep C1.hd).2) := by
     rw [<- HSX.out,delivM_strip]
     unfold delivM
     rw [HT.out]
     dsimp only
     rw [HTT.out.1,HTT.out.2,HC1.out,HLV.out,HWV.out]
     rfl
    have hq := HQ.out
    rw [hd] at hq
    dsimp only at hq
    rw [hq] at hfin
    have HF := hZ0 hfin
    clear hfin hq hd
    go_wp2
    exact HF.out
  ·have hbo : t.bo.length <= 1000 := Nat.le_trans (Ops.chk_ok HJ.out.1.b).2.2.2.2.1 (by decide)
   have hnx : ∀ W,Kept NoF w8 W -> Calls Tryz.prog 27 #[.pointer (some ⟨tb,0,none⟩),.int .i64 C1.ep,.int .i64 C1.hd] W (Ask.NextPost W t C1.ep C1.hd) := fun W hW => by
    have h1 := pnext_any ((HW8.out.quiet hW).st.at'.t t HT1.out).1 HJ.out.1.ok hbo C1.ep C1.hd
    rw [HTB.out] at h1
    exact h1
   unfold Ask.NextPost at hnx
   have hxo := fun W A c (hs : Src W 3 A (nextT t C1.ep C1.hd).2.ops.length (cells (nextT t C1.ep C1.hd).2.ops)) => nextX HJ.out.2 C1.ep C1.hd (c := c) hs
   obtain ⟨p,hp⟩ : ∃ p,nextT t C1.ep C1.hd = p := ⟨_,rfl⟩
   simp only [hp] at hnx hxo
   have HPP := hZ0 hp;have HNX := hZ0 hnx;have HXO := hZ0 hxo
   clear hnx hxo hp hbo
   have s6 := HCL0.out w8 HW8.out.st.at'
   go_wp2_with fail
   go_region_held3 (fun W => W.cell? ⟨cb,4,none⟩ = some (.pointer (some ⟨tb,0,none⟩)) /\ W.cell? ⟨cb,2,none⟩ = some (.int .i64 C1.ep) /\ W.cell? ⟨cb,3,none⟩ = some (.int .i64 C1.hd)) (first | with_reducible exact s8 | with_reducible exact s7 | with_reducible exact s6 | (refine HCL0.out _ (HW8.out.quiet ?_).st.at';(repeat' (first | (with_reducible first | exact kR0 | apply kP0 | apply kN0 | apply kD0 | apply kA0) | (right;simp;done)));done))
    (first
     | (go_at_call 27;refine (HNX.out _ (by (repeat' (first | (with_reducible first | exact kR0 | apply kP0 | apply kN0 | apply kD0 | apply kA0) | (right;simp;done))))).mono ?_;rintro e w10 ⟨A7,c7,rfl,hs7,hc7,-,hk7⟩;have hkk := Kept.then (F := NoF) (a := w8) (by (repeat' (first | (with_reducible first | exact kR0 | apply kP0 | apply kN0 | apply kD0 | apply kA0) | (right;simp;done)))) hk7;have hw7 := HW8.out.quiet hkk;have s7 := HCL0.out w10 hw7.st.at';have HX10 := hZ0 (HXO.out w10 A7 c7 hs7);have HW10 := hZ0 hw7;have HKC := hZ0 (Kept.trans HKB.out hkk (fun _ z => z.elim));clear hs7 hc7 hk7 hkk hw7)
     | (go_at_call 52;refine (put_any HW10.out.bx (by decide) _ _ HX10.out).mono ?_;intro e w11 hpp;obtain ⟨rfl,A8,c8,hw8,hkp⟩ := HW10.out.put hpp;have s8 := HCL0.out w11 hw8.st.at';have HW11 := hZ0 hw8;have HKD := hZ0 (Kept.trans HKC.out hkp (fun k hk => by rcases hk with rfl | hk;exact .inr HLB.out;simp [Value.ownBlock] at hk));clear hw8 hpp hkp))
   clear s6 s7 s8
   have e1 : putO [] p.1 { p.2 with oA := A7,oc := c7 } = putO [] (nextT t C1.ep C1.hd).1 (nextT t C1.ep C1.hd).2 := by rw [HPP.out];rfl
   rw [e1] at HW11
   clear e1
   have HWA := hZ0 HW11.out
   have HXZ := hZ0 (HXK.out _ HKD.out).1;have HBZ := hZ0 (HXK.out _ HKD.out).2
   have htk7 : ∀ W,Kept NoF w11 W -> Calls Tryz.prog 32 #[.pointer (some ⟨tb,0,none⟩),.int .i64 f,.agg cs] W (PPost W X.px t (.bool (takeT t f x).2) (takeT t f x).1) := fun W hW => HTK.out W _ _ _ (HWA.out.quiet hW) (HXZ.out.kept hW (fun _ z => z.elim))
   have HTK7 := hZ0 htk7;clear htk7
   have hS : ∀ W,Kept (foot X.px t) w11 W -> W.cell? ⟨cb,4,none⟩ = some (.pointer (some ⟨tb,0,none⟩)) /\ MsgIn W ⟨bm,0,none⟩ /\ msgAt W ⟨bm,0,none⟩ = cs := fun W hW => by
    have h1 := HWA.out.st.at'.b.kept hW (H.out.t t HT.out).2
    rw [HCB.out] at h1
    have h4 : W.cell? ⟨cb,4,none⟩ = some (tptr X C1) := h1.cell 4
    rw [tptr_some HT1.out,HTB.out] at h4
    have h5 := msgIn_of (cs := xcell x) rfl (w := W) (a := ⟨bm,0,none⟩) (fun j u hu => by
     have e1 : ((⟨bm,0,none⟩ : Addr).add j) = ⟨bm,j,none⟩ := by unfold Addr.add;split <;> simp_all
     rw [e1,(HBZ.out.kept hW (fun hf => by have h3 := H.out.lt (.inr (.inl ⟨t,HT.out,hf⟩));have := HBW.out;omega)).cell]
     simpa using hu)
    rw [HCS.out] at h5
    exact ⟨h4,h5⟩
   have HS := hZ0 hS
   obtain ⟨s1,s2,s3⟩ := hS w11 (Kept.refl _ _)
   clear hS
   go_wp2_with fail
   go_region_held3 (fun W => W.cell? ⟨cb,4,none⟩ = some (.pointer (some ⟨tb,0,none⟩)) /\ MsgIn W ⟨bm,0,none⟩ /\ msgAt W ⟨bm,0,none⟩ = cs) (first | with_reducible exact s9 | with_reducible exact ⟨s1,s2,s3⟩ | (refine HS.out _ (Kept.up' ?_);(repeat' (first | (with_reducible first | exact kR0 | apply kP0 | apply kN0 | apply kD0 | apply kA0) | (right;simp;done)));done))
    (first | (go_at_call 32;refine (HTK7.out _ (by (repeat' (first | (with_reducible first | exact kR0 | apply kP0 | apply kN0 | apply kD0 | apply kA0) | (right;simp;done))))).mono ?_;intro e w9 hp;obtain ⟨rfl,X9,p1,p2,p3,p4⟩ := hp;have hk9 : Kept (foot X.px t) w11 w9 := Kept.trans (Kept.up' (by (repeat' (first | (with_reducible first | exact kR0 | apply kP0 | apply kN0 | apply kD0 | apply kA0) | (right;simp;done))))) p4 (fun _ z => .inl z);have s9 := HS.out w9 hk9;have HP9 := hZ0 (And.intro p1 (And.intro p2 p3));have HK9 := hZ0 hk9;clear p1 p2 p3 p4 hk9))
   have hgo := HWA.out.st.at'.go HT1.out HP9.out.1 HP9.out.2.1 HP9.out.2.2 HK9.out
   have hw9 := HWA.out.step hgo
   obtain ⟨t',ht'⟩ : ∃ t',(takeT t f x).1 = t' := ⟨_,rfl⟩
   obtain ⟨tv,htv⟩ : ∃ tv,(takeT t f x).2 = tv := ⟨_,rfl⟩
   rw [ht'] at hw9
   rw [htv]
   have HW9 := hZ0 hw9;have HTT := hZ0 (And.intro ht' htv)
   have hj' : JOk t' := by rw [<- ht'];exact HJ.out.1.take f x
   have hat' : atOk t' := by rw [<- ht'];exact HJ.out.2.take f HXZ.out.t.1
   have HJ' := hZ0 (And.intro hj' hat');clear hj' hat'
   have hrl : t'.r.ps.length <= 1000 := by rw [<- ht'];exact (HJ.out.1.take f x).rl
   have hse : ∀ W,ClAt W { X with px := X9 } { C1 with t := some t' } -> Calls Tryz.prog 33 #[.pointer (some ⟨cb,0,none⟩)] W fun e w' => e = .returned (.tuple #[]) /\ ∃ X',CStep W { X with px := X9 } { C1 with t := some t' } w' X' (seeC { C1 with t := some t' }) := fun W hc => by rw [<- HCB.out];exact see_any hc (t := t') rfl hrl
   have HSE := hZ0 hse
   clear hgo hw9 ht' htv s9 s1 s2 s3 hrl hse HWA
   cases tv
   ·go_wp2_with fail
    refine (HSE.out w9 HW9.out.st.at').mono ?_
    rintro e w10 ⟨rfl,X10,hs10⟩
    have HW10 := hZ0 (HW9.out.step hs10)
    clear hs10
    go_wp2_with fail
    refine (told_any HW10.out.bx).mono ?_
    rintro e w11 ⟨rfl,rfl⟩
    have hfin := HW10.out.out
    have hd : delivM C f V.1 = (seeC { C1 with t := some t' },putO [] (nextT t C1.ep C1.hd).1 (nextT t C1.ep C1.hd).2) := by
     rw [<- HSX.out,delivM_strip]
     unfold delivM
     rw [HT.out]
     dsimp only
     rw [HTT.out.1,HTT.out.2,HC1.out,HLV.out,HWV.out]
     rfl
    have hq := HQ.out
    rw [hd] at hq
    dsimp only at hq
    rw [hq] at hfin
    have HF := hZ0 hfin
    clear hfin hq hd
    go_wp2
    exact HF.out
   ·have hcl : ∀ W,ClAt W { X with px := X9 } { C1 with t := some t' } -> W.cell? ⟨cb,4,none⟩ = some (.pointer (some ⟨tb,0,none⟩)) /\ W.cell? ⟨cb,2,none⟩ = some (.int .i64 C1.ep) /\ W.cell? ⟨cb,3,none⟩ = some (.int .i64 C1.hd) := fun W hc => by
     have h1 := hc.b
     have h2 : Has W cb 38 (ccells { X with px := X9 } { C1 with t := some t' }) := by rw [<- HCB.out];exact h1
     have h4 : W.cell? ⟨cb,4,none⟩ = some (tptr { X with px := X9 } { C1 with t := some t' }) := h2.cell 4
     rw [tptr_some (C := { C1 with t := some t' }) rfl] at h4
     dsimp only at h4
     rw [HP9.out.2.1,HTB.out] at h4
     exact ⟨h4,h2.cell 2,h2.cell 3⟩
    have HCL := hZ0 hcl
    have hbo : t'.bo.length <= 1000 := Nat.le_trans (Ops.chk_ok HJ'.out.1.b).2.2.2.2.1 (by decide)
    have hnx : ∀ W,Kept NoF w9 W -> Calls Tryz.prog 27 #[.pointer (some ⟨tb,0,none⟩),.int .i64 C1.ep,.int .i64 C1.hd] W (Ask.NextPost W t' C1.ep C1.hd) := fun W hW => by
     have h1 := pnext_any ((HW9.out.quiet hW).st.at'.t t' rfl).1 HJ'.out.1.ok hbo C1.ep C1.hd
     dsimp only at h1
     rw [HP9.out.2.1,HTB.out] at h1
     exact h1
    unfold Ask.NextPost at hnx
    have hxo := fun W A c (hs : Src W 3 A (nextT t' C1.ep C1.hd).2.ops.length (cells (nextT t' C1.ep C1.hd).2.ops)) => nextX HJ'.out.2 C1.ep C1.hd (c := c) hs
    obtain ⟨p,hp⟩ : ∃ p,nextT t' C1.ep C1.hd = p := ⟨_,rfl⟩
    simp only [hp] at hnx hxo
    have HPP := hZ0 hp;have HNX := hZ0 hnx;have HXO := hZ0 hxo
    clear hnx hxo hp hcl hbo
    have s6 := HCL.out w9 HW9.out.st.at'
    go_wp2_with fail
    go_region_held3 (fun W => W.cell? ⟨cb,4,none⟩ = some (.pointer (some ⟨tb,0,none⟩)) /\ W.cell? ⟨cb,2,none⟩ = some (.int .i64 C1.ep) /\ W.cell? ⟨cb,3,none⟩ = some (.int .i64 C1.hd)) (first | with_reducible exact s8 | with_reducible exact s7 | with_reducible exact s6 | (refine HCL.out _ (HW9.out.quiet ?_).st.at';(repeat' (first | (with_reducible first | exact kR0 | apply kP0 | apply kN0 | apply kD0 | apply kA0) | (right;simp;done)));done))
     (first
      | (go_at_call 27;refine (HNX.out _ (by (repeat' (first | (with_reducible first | exact kR0 | apply kP0 | apply kN0 | apply kD0 | apply kA0) | (right;simp;done))))).mono ?_;rintro e w10 ⟨A7,c7,rfl,hs7,hc7,-,hk7⟩;have hkk := Kept.then (F := NoF) (a := w9) (by (repeat' (first | (with_reducible first | exact kR0 | apply kP0 | apply kN0 | apply kD0 | apply kA0) | (right;simp;done)))) hk7;have hw7 := HW9.out.quiet hkk;have s7 := HCL.out w10 hw7.st.at';have HX10 := hZ0 (HXO.out w10 A7 c7 hs7);have HW10 := hZ0 hw7;clear hs7 hc7 hk7 hkk hw7)
      | (go_at_call 52;refine (put_any HW10.out.bx (by unfold putO;split <;> simp) _ _ HX10.out).mono ?_;intro e w11 hpp;obtain ⟨rfl,A8,c8,hw8,-⟩ := HW10.out.put hpp;have s8 := HCL.out w11 hw8.st.at';have HW11 := hZ0 hw8;clear hw8 hpp))
    clear s6 s7
    have e1 : putO (putO [] (nextT t C1.ep C1.hd).1 (nextT t C1.ep C1.hd).2) p.1 { p.2 with oA := A7,oc := c7 } = putO (putO [] (nextT t C1.ep C1.hd).1 (nextT t C1.ep C1.hd).2) (nextT t' C1.ep C1.hd).1 (nextT t' C1.ep C1.hd).2 := by rw [HPP.out];rfl
    rw [e1] at HW11
    clear e1
    go_wp2_with fail
    refine (HSE.out w11 HW11.out.st.at').mono ?_
    rintro e w12 ⟨rfl,X12,hs12⟩
    have HW12 := hZ0 (HW11.out.step hs12)
    clear hs12 s8
    go_wp2_with fail
    refine (told_any HW12.out.bx).mono ?_
    rintro e w13 ⟨rfl,rfl⟩
    have hfin := HW12.out.out
    have hd : delivM C f V.1 = (seeC { C1 with t := some t' },putO (putO [] (nextT t C1.ep C1.hd).1 (nextT t C1.ep C1.hd).2) (nextT t' C1.ep C1.hd).1 (nextT t' C1.ep C1.hd).2) := by
     rw [<- HSX.out,delivM_strip]
     unfold delivM
     rw [HT.out]
     dsimp only
     rw [HTT.out.1,HTT.out.2,HC1.out,HLV.out,HWV.out]
     rfl
    have hq := HQ.out
    rw [hd] at hq
    dsimp only at hq
    rw [hq] at hfin
    have HF := hZ0 hfin
    clear hfin hq hd
    go_wp2
    exact HF.out
end
end Cli
end Go.Proofs.YtgbigpdiacjbgaaGreat

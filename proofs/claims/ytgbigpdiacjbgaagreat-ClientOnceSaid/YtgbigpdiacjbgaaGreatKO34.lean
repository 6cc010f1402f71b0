/- Part 35 of what the proof needs. -/
import Derived.Test.YtgbigpdiacjbgaaGreatKO22
import Derived.Test.YtgbigpdiacjbgaaGreatKO32
import Derived.Test.YtgbigpdiacjbgaaGreatKO33
set_option linter.unusedSimpArgs false
set_option linter.unusedVariables false
set_option maxHeartbeats 32000000
set_option maxRecDepth 100000
namespace Go.Proofs.YtgbigpdiacjbgaaGreat
open Go.RowKit
set_option maxRecDepth 100000
namespace Cli
open Plan Ops Ent Msg Vn Go.Proofs.YtgbigpdiacjbgaaGreat.Ask
section
variable {w w' : World} {X X' : CX} {C C' : CLR}
def SendPost (w : World) (X : CX) (C C' : CLR) (L : List OutR) (e : Ending) (w' : World) : Prop :=
 ∃ X' A c,e = .returned (.slice A (List.length L) c) /\ CStep w X C w' X' C' /\ OutNew w w' A c L
structure Way (w : World) (X : CX) (C : CLR) (W : World) (X1 : CX) (C1 : CLR) (lb : Nat) (A : Option Addr) (c : Nat) (L : List OutR) : Prop where
 st : CStep w X C W X1 C1
 bx : BoxAt W lb A c L
 nb : ∀ k,bfoot lb A L.length c k -> w.heap.size <= k /\ ¬ cfoot X1 C1 k
theorem Way.quiet {W W' : World} {X1 : CX} {C1 : CLR} {lb c : Nat} {A : Option Addr} {L : List OutR} (h : Way w X C W X1 C1 lb A c L) (hk : Kept NoF W W') : Way w X C W' X1 C1 lb A c L :=
 ⟨h.st.quiet hk,h.bx.quiet hk,h.nb⟩
theorem Way.new {W W' : World} {X1 : CX} {C1 : CLR} {lb : Nat} (h : CStep w X C W X1 C1) (hb : BoxAt W' lb none 0 []) (hl : W.heap.size <= lb) (hk : Kept NoF W W') : Way w X C W' X1 C1 lb none 0 [] := by
 refine ⟨h.quiet hk,hb,fun k hf => ?_⟩
 rcases hf with rfl | hf
 ·exact ⟨Nat.le_trans h.k.size hl,fun hc => by have := h.at'.lt hc;omega⟩
 ·simp [Value.ownBlock] at hf
theorem Way.put {W W' : World} {X1 : CX} {C1 : CLR} {lb c : Nat} {A : Option Addr} {L L' : List OutR} {e : Ending} (h : Way w X C W X1 C1 lb A c L) (hp : PutPost W lb A c L L' e W') : e = .returned (.tuple #[]) /\ ∃ A' c',Way w X C W' X1 C1 lb A' c' L' /\ Kept (bfoot lb A L.length c) W W' := by
 obtain ⟨he,A',c',hb,hk,hn⟩ := hp
 refine ⟨he,A',c',⟨⟨h.st.at'.keptG hk (fun k hc hf => (h.nb k hf).2 hc),h.st.cb,h.st.g,h.st.k.trans hk (fun k hf => .inr (h.nb k hf).1)⟩,hb,fun k hf => ?_⟩,hk⟩
 rcases hn k hf with y | y
 ·exact h.nb k y
 ·have := h.st.k.size
  exact ⟨by omega,fun hc => by have := h.st.at'.lt hc;omega⟩
theorem Way.out {W : World} {X1 : CX} {C1 : CLR} {lb c : Nat} {A : Option Addr} {L : List OutR} (h : Way w X C W X1 C1 lb A c L) : SendPost w X C C1 L (.returned (.slice A L.length c)) W :=
 ⟨X1,A,c,rfl,h.st,h.bx.r,fun k hk => (h.nb k (.inr hk)).1⟩
theorem Way.nums {W W' : World} {X1 : CX} {C1 C2 : CLR} {lb c : Nat} {A : Option Addr} {L : List OutR} (h : Way w X C W X1 C1 lb A c L) (hk : Kept (fun k => k = X1.cb) W W') (hb : Has W' X1.cb 38 (ccells X1 C2)) (ht : C2.t = C1.t) (hr : C2.r = C1.r) : Way w X C W' X1 C2 lb A c L := by
 have hs := h.st.at'.nums hk hb ht hr
 refine ⟨h.st.trans hs,h.bx.keptG hk (fun k hf e => (h.nb k hf).2 (.inl e)),fun k hf => ⟨(h.nb k hf).1,fun hc => (h.nb k hf).2 ?_⟩⟩
 unfold cfoot at hc ⊢
 rw [ht,hr] at hc
 exact hc
theorem tick_go (h : ClAt w X C) (hok : COk C) {t : TS} (ht : C.t = some t) (hz : (tickT t).2 = true) (h2 : TOk (tickT t).1 /\ (tickT t).1.bo.length <= 1000) (hat : atOk (tickT t).1) : Calls Tryz.prog 12 #[.pointer (some ⟨X.cb,0,none⟩)] w (SendPost w X C (tickC C).1 (tickC C).2) := by
 have hn := cnone_any h
 have hpt := ptick_any (h.t t ht).1 (hok.t t ht).1
 rw [hz] at hpt
 have q : w.cell? ⟨X.cb,4,none⟩ = some (tptr X C) := h.b.cell 4
 rw [tptr_some ht] at q
 have htc : tickC C = if writesT (tickT t).1 = false then ({ C with t := some (tickT t).1 },putO [] (nextT (tickT t).1 C.ep C.hd).1 (nextT (tickT t).1 C.ep C.hd).2)
  else if 0 <= C.hd /\ (C.as' = true \/ (min (C.tk + 1) 1073741824) % 4 = 0) then ({ C with t := some (tickT t).1,tk := min (C.tk + 1) 1073741824,as' := false },putO (putO [] (nextT (tickT t).1 C.ep C.hd).1 (nextT (tickT t).1 C.ep C.hd).2) 4 { zmsg with k := 15 })
  else ({ C with t := some (tickT t).1,tk := min (C.tk + 1) 1073741824 },putO [] (nextT (tickT t).1 C.ep C.hd).1 (nextT (tickT t).1 C.ep C.hd).2) := by
  unfold tickC
  rw [ht]
  dsimp only
  rw [if_neg (by rw [hz];decide)]
 obtain ⟨t',ht'⟩ : ∃ t',(tickT t).1 = t' := ⟨_,rfl⟩
 rw [ht'] at hpt h2 hat htc
 have hst : ∀ W,PPost w X.px t (.bool true) t' (.returned (.bool true)) W -> ∃ X1 : CX,X1.cb = X.cb /\ X1.px.b = X.px.b /\ CStep w X C W X1 { C with t := some t' } := fun W hp => by
  obtain ⟨-,Xp,p1,p2,p3,p4⟩ := hp
  exact ⟨{ X with px := Xp },rfl,p2,h.go ht p1 p2 p3 p4⟩
 obtain ⟨cb,hcb⟩ : ∃ cb,X.cb = cb := ⟨_,rfl⟩
 obtain ⟨tb,htb⟩ : ∃ tb,X.px.b = tb := ⟨_,rfl⟩
 rw [hcb] at hn q ⊢
 simp only [hcb,htb] at hst
 rw [htb] at hpt q
 have HN := hZ0 hn;have HPT := hZ0 hpt;have HST := hZ0 hst;have H2 := hZ0 h2;have HAT := hZ0 hat;have HTC := hZ0 htc;have HOK := hZ0 hok
 clear hn hpt hst h hcb htb ht hok hz h2 hat htc ht'
 generalize hQ : SendPost w X C (tickC C).1 (tickC C).2 = Q
 have HQ := hZ0 hQ;clear hQ
 go_enter Tryz.func12,Tryz.ntmps12
 go_wp2_with fail
 refine HN.out.mono ?_
 rintro e w2 ⟨rfl,rfl⟩
 go_wp2_with fail
 clear q
 refine HPT.out.mono ?_
 intro e w3 hp
 obtain ⟨rfl,-⟩ := id hp
 obtain ⟨X1,hx1,hx2,hs3⟩ := HST.out w3 hp
 have HS3 := hZ0 hs3;have HX1 := hZ0 (And.intro hx1 hx2)
 clear hp hs3 hx1 hx2 HST HPT HN
 go_wp2_with fail
 refine (outs_any w3).mono ?_
 rintro e w6 ⟨lb,rfl,hbx,hlb,hk6⟩
 have HW6 := hZ0 (Way.new HS3.out hbx hlb hk6)
 clear hbx hlb hk6 HS3
 have hcl : ∀ W,ClAt W X1 { C with t := some t' } -> W.cell? ⟨cb,4,none⟩ = some (.pointer (some ⟨tb,0,none⟩)) /\ W.cell? ⟨cb,2,none⟩ = some (.int .i64 C.ep) /\ W.cell? ⟨cb,3,none⟩ = some (.int .i64 C.hd) := fun W hc => by
  have h1 := hc.b
  rw [HX1.out.1] at h1
  have h4 : W.cell? ⟨cb,4,none⟩ = some (tptr X1 { C with t := some t' }) := h1.cell 4
  rw [tptr_some (C := { C with t := some t' }) rfl,HX1.out.2] at h4
  exact ⟨h4,h1.cell 2,h1.cell 3⟩
 have HCL := hZ0 hcl
 have hnx : ∀ W,Kept NoF w6 W -> Calls Tryz.prog 27 #[.pointer (some ⟨tb,0,none⟩),.int .i64 C.ep,.int .i64 C.hd] W (Ask.NextPost W t' C.ep C.hd) := fun W hW => by
  have h1 := pnext_any ((HW6.out.quiet hW).st.at'.t t' rfl).1 H2.out.1 H2.out.2 C.ep C.hd
  rw [HX1.out.2] at h1
  exact h1
 unfold Ask.NextPost at hnx
 have hxo := fun W A c (hs : Src W 3 A (nextT t' C.ep C.hd).2.ops.length (cells (nextT t' C.ep C.hd).2.ops)) => nextX HAT.out C.ep C.hd (c := c) hs
 obtain ⟨p,hp⟩ : ∃ p,nextT t' C.ep C.hd = p := ⟨_,rfl⟩
 simp only [hp] at hnx hxo
 have HPP := hZ0 hp;have HNX := hZ0 hnx;have HXO := hZ0 hxo
 clear hnx hxo hp hcl
 have s6 := HCL.out w6 HW6.out.st.at'
 go_wp2_with fail
 go_region_held3 (fun W => W.cell? ⟨cb,4,none⟩ = some (.pointer (some ⟨tb,0,none⟩)) /\ W.cell? ⟨cb,2,none⟩ = some (.int .i64 C.ep) /\ W.cell? ⟨cb,3,none⟩ = some (.int .i64 C.hd)) (first | with_reducible exact s8 | with_reducible exact s7 | with_reducible exact s6 | (refine HCL.out _ (HW6.out.quiet ?_).st.at';(repeat' (first | (with_reducible first | exact kR0 | apply kP0 | apply kN0 | apply kD0 | apply kA0) | (right;simp;done)));done))
  (first
   | (go_at_call 27;refine (HNX.out _ (by (repeat' (first | (with_reducible first | exact kR0 | apply kP0 | apply kN0 | apply kD0 | apply kA0) | (right;simp;done))))).mono ?_;rintro e w7 ⟨A7,c7,rfl,hs7,hc7,-,hk7⟩;have hkk := Kept.then (F := NoF) (a := w6) (by (repeat' (first | (with_reducible first | exact kR0 | apply kP0 | apply kN0 | apply kD0 | apply kA0) | (right;simp;done)))) hk7;have hw7 := HW6.out.quiet hkk;have s7 := HCL.out w7 hw7.st.at';have HX7 := hZ0 (HXO.out w7 A7 c7 hs7);have HW7 := hZ0 hw7;clear hs7 hc7 hk7 hkk hw7)
   | (go_at_call 52;refine (put_any HW7.out.bx (by decide) _ _ HX7.out).mono ?_;intro e w8 hpp;obtain ⟨rfl,A8,c8,hw8,-⟩ := HW7.out.put hpp;have s8 := HCL.out w8 hw8.st.at';have HW8 := hZ0 hw8;clear hw8 hpp))
 clear s6 s7
 have hwr : Calls Tryz.prog 31 #[.pointer (some ⟨tb,0,none⟩)] w8 fun e w' => e = .returned (.bool (writesT t')) /\ Kept NoF w8 w' := by
  have h1 := pwrites_any (HW8.out.st.at'.t t' rfl).1
  rw [HX1.out.2] at h1
  exact h1
 have e1 : putO [] p.1 { p.2 with oA := A7,oc := c7 } = putO [] (nextT t' C.ep C.hd).1 (nextT t' C.ep C.hd).2 := by rw [HPP.out];rfl
 rw [e1] at HW8
 obtain ⟨L1,hL1⟩ : ∃ L1,putO [] (nextT t' C.ep C.hd).1 (nextT t' C.ep C.hd).2 = L1 := ⟨_,rfl⟩
 have hl1 : L1.length <= 1 := by rw [<- hL1];exact putO_len _ _ _
 have htc := HTC.out
 rw [hL1] at HW8 htc
 obtain ⟨wv,hwv⟩ : ∃ wv,writesT t' = wv := ⟨_,rfl⟩
 rw [hwv] at hwr htc
 have HWR := hZ0 hwr;have HTC1 := hZ0 htc;have HL1 := hZ0 hl1
 clear hwr e1 htc hL1 hwv hl1 HTC HPP HNX HXO HW6 HX7 HW7
 cases wv
 ·have htc := HTC1.out
  rw [if_pos rfl] at htc
  have HTC2 := hZ0 htc
  clear htc HTC1
  go_wp2_with fail
  clear s8
  refine HWR.out.mono ?_
  rintro e w9 ⟨rfl,hk9⟩
  have HW9 := hZ0 (HW8.out.quiet hk9)
  clear hk9
  go_wp2_with fail
  refine (told_any HW9.out.bx).mono ?_
  rintro e w10 ⟨rfl,rfl⟩
  have hfin := HW9.out.out
  have htc := HTC2.out
  have hq := HQ.out
  rw [htc] at hq
  dsimp only at hq
  rw [hq] at hfin
  have HF := hZ0 hfin
  clear hfin htc hq
  go_wp2
  exact HF.out
 ·have htc := HTC1.out
  rw [if_neg (by decide)] at htc
  have HTC2 := hZ0 htc
  clear htc HTC1
  go_wp2_with fail
  clear s8
  refine HWR.out.mono ?_
  rintro e w9 ⟨rfl,hk9⟩
  have HW9 := hZ0 (HW8.out.quiet hk9)
  clear hk9 HWR HW8
  have hb9 := HW9.out.st.at'.b
  rw [HX1.out.1] at hb9
  have y12 : w9.cell? ⟨cb,12,none⟩ = some (.int .i64 C.tk) := hb9.cell 12
  have f12 := hb9.frozen 12
  have htk := HOK.out.tk
  have hwrp : IntKind.i64.wrap (C.tk + 1) = C.tk + 1 := IntWalk.i64_in _ (by omega)
  have hmn := run_min (C.tk + 1) 1073741824 _ rfl
  obtain ⟨M,hM⟩ : ∃ M,min (C.tk + 1) 1073741824 = M := ⟨_,rfl⟩
  rw [hM] at hmn
  have htc := HTC2.out
  rw [hM] at htc
  have hb10 : Has (w9.setCell ⟨cb,12,none⟩ (.int .i64 M)) cb 38 (ccells X1 { C with t := some t',tk := M }) := Has.put_of hb9 rfl
  have hw10 : Way w X C (w9.setCell ⟨cb,12,none⟩ (.int .i64 M)) X1 { C with t := some t',tk := M } lb A8 c8 L1 := HW9.out.nums (by rw [HX1.out.1];(repeat' (first | (with_reducible first | exact kR0 | apply kP0 | apply kN0 | apply kD0 | apply kA0) | (exact Or.inl rfl) | (right;simp;done)))) (by rw [HX1.out.1];exact hb10) rfl rfl
  have z3 := hb10.cell 3
  have z11 := hb10.cell 11
  have z12 := hb10.cell 12
  have f11 := hb10.frozen 11
  simp [ccells] at z3 z11 z12
  have HW10 := hZ0 hw10;have HB10 := hZ0 hb10
  have hm0 : 0 <= M := by omega
  have hrem : (M.tmod 4 == 0) = decide (M % 4 = 0) := by
   rw [Int.tmod_eq_emod_of_nonneg hm0]
   by_cases h : M % 4 = 0
   ·rw [decide_eq_true h];simpa using h
   ·rw [decide_eq_false h];simpa using h
  obtain ⟨b,hb⟩ : ∃ b,decide (M % 4 = 0) = b := ⟨_,rfl⟩
  rw [hb] at hrem
  obtain ⟨g,hg⟩ : ∃ g,decide (0 <= C.hd /\ (C.as' = true \/ M % 4 = 0)) = g := ⟨_,rfl⟩
  have hgg : g = (decide (0 <= C.hd) && (C.as' || b)) := by rw [<- hg,<- hb];simp
  have htc2 : tickC C = if g = true then ({ C with t := some t',tk := M,as' := false },putO L1 4 { zmsg with k := 15 }) else ({ C with t := some t',tk := M },L1) := by
   rw [htc,<- hg]
   simp
  have HT3 := hZ0 htc2;have HGG := hZ0 hgg
  obtain ⟨as0,has0⟩ : ∃ as0,C.as' = as0 := ⟨_,rfl⟩
  rw [has0] at z11 hgg
  clear hb9 hw10 hb10 htc HTC2 htk hM hb hg htc2 hm0 has0 HGG
  have hno : g = false -> SendPost w X C (tickC C).1 (tickC C).2 (.returned (.slice A8 L1.length c8)) (w9.setCell ⟨cb,12,none⟩ (.int .i64 M)) := fun hg => by
   have h1 := HT3.out
   rw [hg,if_neg (by decide)] at h1
   rw [h1]
   exact HW10.out.out
  rw [HQ.out] at hno
  have HNO := hZ0 hno;clear hno
  by_cases hhd : 0 <= C.hd
  rotate_left
  ·have hg0 : g = false := by rw [hgg,decide_eq_false hhd];rfl
   have HF := hZ0 (HNO.out hg0)
   clear hgg hg0 hrem z11 z12 f11 HNO
   go_wp2_with fail
   refine (told_any HW10.out.bx).mono ?_
   rintro e w11 ⟨rfl,rfl⟩
   go_wp2
   exact HF.out
  have hyes : g = true -> ∀ W A c,Way w X C W X1 { C with t := some t',tk := M,as' := false } lb A c (putO L1 4 { zmsg with k := 15 }) -> SendPost w X C (tickC C).1 (tickC C).2 (.returned (.slice A (putO L1 4 { zmsg with k := 15 }).length c)) W := fun hg W A c hw => by
   have h1 := HT3.out
   rw [hg,if_pos rfl] at h1
   rw [h1]
   exact hw.out
  simp only [HQ.out] at hyes
  have HYES := hZ0 hyes;clear hyes
  have hzx : ∀ W,XOk W { zmsg with k := 15 } := fun W => by
   have hz : (0 : Int) <= 0 /\ (0 : Int) <= maxTs := by unfold maxTs;decide
   exact ⟨Src.nil _ _ _,Nat.le_refl _,Nat.zero_le _,Src.nil _ _ _,Src.nil _ _ _,(fun y hy => by cases hy),Nat.zero_le _,Src.nil _ _ _,Nat.zero_le _,(fun y hy => by cases hy),Src.nil _ _ _,Nat.zero_le _,hz,hz,hz⟩
  have hput : ∀ W,Kept NoF (w9.setCell ⟨cb,12,none⟩ (.int .i64 M)) W -> Calls Tryz.prog 52 #[.int .i64 4,.agg (Mof.kcells 15),.pointer (some ⟨lb,0,none⟩)] W fun e w' => e = .returned (.tuple #[]) /\ ∃ A' c',Way w X C w' X1 { C with t := some t',tk := M } lb A' c' (putO L1 4 { zmsg with k := 15 }) := fun W hW => by
   have hw := HW10.out.quiet hW
   refine (put_any hw.bx (by have := HL1.out;omega) 4 { zmsg with k := 15 } (hzx W)).mono fun e w' hp => ?_
   obtain ⟨he,A',c',h1,-⟩ := hw.put hp
   exact ⟨he,A',c',h1⟩
  have HPUT := hZ0 hput;clear hput hzx
  cases as0
  ·cases b
   ·have hg0 : g = false := by rw [hgg];simp
    have HF := hZ0 (HNO.out hg0)
    clear hgg hg0 HNO HYES HPUT f11
    go_wp2_with fail
    refine (told_any HW10.out.bx).mono ?_
    rintro e w11 ⟨rfl,rfl⟩
    go_wp2
    exact HF.out
   ·have hg1 : g = true := by rw [hgg,decide_eq_true hhd];rfl
    have HG := hZ0 hg1
    clear hgg hg1 HNO f11
    go_wp2_with fail
    clear z3 z11 z12 hrem
    refine (HPUT.out _ (Kept.refl _ _)).mono ?_
    rintro e w11 ⟨rfl,A2,c2,hw11⟩
    have hb11 := hw11.st.at'.b
    rw [HX1.out.1] at hb11
    have y11 : w11.cell? ⟨cb,11,none⟩ = some (.bool C.as') := hb11.cell 11
    have f11 := hb11.frozen 11
    have hw12 : Way w X C (w11.setCell ⟨cb,11,none⟩ (.bool false)) X1 { C with t := some t',tk := M,as' := false } lb A2 c2 (putO L1 4 { zmsg with k := 15 }) := hw11.nums (by rw [HX1.out.1];(repeat' (first | (with_reducible first | exact kR0 | apply kP0 | apply kN0 | apply kD0 | apply kA0) | (exact Or.inl rfl) | (right;simp;done)))) (by rw [HX1.out.1];exact Has.put_of hb11 rfl) rfl rfl
    have HW12 := hZ0 hw12
    clear hw11 hb11 hw12
    go_wp2_with fail
    refine (told_any HW12.out.bx).mono ?_
    rintro e w13 ⟨rfl,rfl⟩
    have HF := hZ0 (HYES.out HG.out _ _ _ HW12.out)
    go_wp2
    exact HF.out
  ·have hg1 : g = true := by rw [hgg,decide_eq_true hhd];rfl
   have HG := hZ0 hg1
   clear hgg hg1 HNO f11
   go_wp2_with fail
   clear z3 z11 z12 hrem
   refine (HPUT.out _ (Kept.refl _ _)).mono ?_
   rintro e w11 ⟨rfl,A2,c2,hw11⟩
   have hb11 := hw11.st.at'.b
   rw [HX1.out.1] at hb11
   have y11 : w11.cell? ⟨cb,11,none⟩ = some (.bool C.as') := hb11.cell 11
   have f11 := hb11.frozen 11
   have hw12 : Way w X C (w11.setCell ⟨cb,11,none⟩ (.bool false)) X1 { C with t := some t',tk := M,as' := false } lb A2 c2 (putO L1 4 { zmsg with k := 15 }) := hw11.nums (by rw [HX1.out.1];(repeat' (first | (with_reducible first | exact kR0 | apply kP0 | apply kN0 | apply kD0 | apply kA0) | (exact Or.inl rfl) | (right;simp;done)))) (by rw [HX1.out.1];exact Has.put_of hb11 rfl) rfl rfl
   have HW12 := hZ0 hw12
   clear hw11 hb11 hw12
   go_wp2_with fail
   refine (told_any HW12.out.bx).mono ?_
   rintro e w13 ⟨rfl,rfl⟩
   have HF := hZ0 (HYES.out HG.out _ _ _ HW12.out)
   go_wp2
   exact HF.out
end
end Cli
namespace Cli
open Plan Ops Ent Msg Vn Go.Proofs.YtgbigpdiacjbgaaGreat.Ask
def delivM (C : CLR) (f : Int) (x : MsgR) : CLR × List OutR := match C.t with
 | none => ((learnC C f x).1,[])
 | some t => (seeC { (learnC C f x).1 with t := some (takeT t f x).1 },
   if (takeT t f x).2 = true then putO (if (learnC C f x).2 = true /\ writesT t = true then putO [] (nextT t (learnC C f x).1.ep (learnC C f x).1.hd).1 (nextT t (learnC C f x).1.ep (learnC C f x).1.hd).2 else []) (nextT (takeT t f x).1 (learnC C f x).1.ep (learnC C f x).1.hd).1 (nextT (takeT t f x).1 (learnC C f x).1.ep (learnC C f x).1.hd).2
   else (if (learnC C f x).2 = true /\ writesT t = true then putO [] (nextT t (learnC C f x).1.ep (learnC C f x).1.hd).1 (nextT t (learnC C f x).1.ep (learnC C f x).1.hd).2 else []))
theorem delivM_strip (C : CLR) (f : Int) (x : MsgR) : delivM C f (Mof.strip x) = delivM C f x := rfl
def delivC (C : CLR) (f : Int) (s : ByteArray) : CLR × List OutR :=
 if (bl s)[0]? ≠ some 77 then (C,[])
 else if (Mof.ofM (s.extract 1 s.size)).2 ≠ 0 then (C,[])
 else delivM C f (Mof.ofM (s.extract 1 s.size)).1
section
variable {w w' : World} {X X' : CX} {C C' : CLR}
theorem deliver_empty (h : ClAt w X C) (f : Int) : Calls Tryz.prog 11 #[.pointer (some ⟨X.cb,0,none⟩),.int .i64 f,.string ⟨#[]⟩] w fun e w' => e = .returned (.slice none 0 0) /\ w = w' := by
 have HN := hZ0 (cnone_any h)
 clear h
 go_enter Tryz.func11,Tryz.ntmps11
 go_wp2_with fail
 refine HN.out.mono ?_
 rintro e w2 ⟨rfl,rfl⟩
 go_wp2
 go_ret
 exact ⟨rfl,rfl⟩
theorem deliver_other (h : ClAt w X C) (f : Int) (s : ByteArray) (hs : 0 < s.size) (hb : s[0].toNat ≠ 77) : Calls Tryz.prog 11 #[.pointer (some ⟨X.cb,0,none⟩),.int .i64 f,.string s] w fun e w' => e = .returned (.slice none 0 0) /\ w = w' := by
 have HN := hZ0 (cnone_any h)
 have hne : (s.toList == ([] : List UInt8)) = false := by
  cases hl : s.toList with
  | nil => have h1 := congrArg List.length hl
           have h2 : s.toList.length = s.size := by rw [<- size_bl s];simp [bl,ByteArray.toList_eq]
           rw [h1] at h2
           simp at h2
           omega
  | cons a l => rfl
 clear h
 go_enter Tryz.func11,Tryz.ntmps11
 go_wp2_with fail
 refine HN.out.mono ?_
 rintro e w2 ⟨rfl,rfl⟩
 go_wp2
 go_ret
 exact ⟨rfl,rfl⟩
end
end Cli
namespace Cli
open Plan Ops Ent Msg Vn Go.Proofs.YtgbigpdiacjbgaaGreat.Ask
attribute [local go_sem ↓] storeVar_msg loadVar_msg
section
variable {w w' : World} {X X' : CX} {C C' : CLR}
theorem nempty {s : ByteArray} (hs : 0 < s.size) : (s.toList == ([] : List UInt8)) = false := by
 cases hl : s.toList with
 | nil => have h1 := congrArg List.length hl
          have h2 : s.toList.length = s.size := by rw [<- size_bl s];simp [bl,ByteArray.toList_eq]
          rw [h1] at h2
          simp at h2
          omega
 | cons a l => rfl
theorem deliver_bad (h : ClAt w X C) (f : Int) (s : ByteArray) (hs : 0 < s.size) (hsm : s.size <= maxLen) (hb : s[0].toNat = 77) (hz : (Mof.ofM (s.extract 1 s.size)).2 ≠ 0) : Calls Tryz.prog 11 #[.pointer (some ⟨X.cb,0,none⟩),.int .i64 f,.string s] w fun e w' => e = .returned (.slice none 0 0) /\ Kept NoF w w' := by
 have HN := hZ0 (cnone_any h)
 have hne := nempty hs
 have hof := Mof.mof_any w (s.extract 1 s.size) (by rw [ByteArray.size_extract];omega)
 unfold Mof.OfPost at hof
 obtain ⟨er,her⟩ : ∃ er,(Mof.ofM (s.extract 1 s.size)).2 = er := ⟨_,rfl⟩
 rw [her] at hz hof
 have hz2 : (er != 0) = true := by simpa using hz
 have HOF := hZ0 hof
 clear hof her hz h
 go_enter Tryz.func11,Tryz.ntmps11
 go_wp2_with fail
 refine HN.out.mono ?_
 rintro e w2 ⟨rfl,rfl⟩
 go_wp2_with fail
 refine HOF.out.mono ?_
 rintro e w3 ⟨x,rfl,-,-,hk3⟩
 obtain ⟨Wz,W4,hWz,hst4,-,hk4⟩ := lay_msg w3 x
 have HK := hZ0 (hk3.then hk4)
 unfold xagg
 obtain ⟨cs,hcs⟩ : ∃ cs,(xcell x).toArray = cs := ⟨_,rfl⟩
 rw [hcs] at hst4 ⊢
 clear hk3 hk4
 go_wp2
 go_ret
 exact ⟨rfl,HK.out⟩
end
end Cli
namespace Cli
open Plan Ops Ent Msg Vn Go.Proofs.YtgbigpdiacjbgaaGreat.Ask
attribute [local go_sem ↓] storeVar_msg loadVar_msg
section
variable {w w' : World} {X X' : CX} {C C' : CLR}
theorem writes_nil (w : World) : Calls Tryz.prog 31 #[.pointer none] w fun e w' => e = .returned (.bool false) /\ Kept NoF w w' := by
 have hn : ∀ W,Calls Tryz.prog 55 #[.pointer none] W fun e w' => e = .returned (.bool true) /\ W = w' := fun W => by
  go_enter Tryz.func55,Tryz.ntmps55
  go_wp2
  go_ret
  exact ⟨rfl,rfl⟩
 have HN := hZ0 hn;clear hn
 go_enter Tryz.func31,Tryz.ntmps31
 go_wp2_with fail
 refine (HN.out _).mono ?_
 rintro e w2 ⟨rfl,rfl⟩
 go_wp2
 go_ret
 exact ⟨rfl,by (repeat' (first | (with_reducible first | exact kR0 | apply kP0 | apply kN0 | apply kD0 | apply kA0) | (right;simp;done)))⟩
theorem Way.step {W W' : World} {X1 X2 : CX} {C1 C2 : CLR} {lb c : Nat} {A : Option Addr} {L : List OutR} (h : Way w X C W X1 C1 lb A c L) (hs : CStep W X1 C1 W' X2 C2) : Way w X C W' X2 C2 lb A c L := by
 refine ⟨h.st.trans hs,h.bx.keptG hs.k (fun k hf hc => (h.nb k hf).2 hc),fun k hf => ⟨(h.nb k hf).1,fun hc => ?_⟩⟩
 rcases hs.g k hc with y | y
 ·exact (h.nb k hf).2 y
 ·have := h.bx.lt hf;omega
theorem learn_t (C : CLR) (f : Int) (x : MsgR) : (learnC C f x).1.t = C.t /\ (learnC C f x).1.r = C.r := by
 unfold learnC
 split
 ·exact ⟨rfl,rfl⟩
 split
 ·exact ⟨rfl,rfl⟩
 ·exact ⟨rfl,rfl⟩
theorem deliver_idle (h : ClAt w X C) (ht : C.t = none) (f : Int) (s : ByteArray) (hs : 0 < s.size) (hsm : s.size <= maxLen) (hb : s[0].toNat = 77) (hz : (Mof.ofM (s.extract 1 s.size)).2 = 0) : Calls Tryz.prog 11 #[.pointer (some ⟨X.cb,0,none⟩),.int .i64 f,.string s] w (SendPost w X C (delivM C f (Mof.ofM (s.extract 1 s.size)).1).1 []) := by
 have HN := hZ0 (cnone_any h)
 have hne := nempty hs
 have hof := Mof.mof_any w (s.extract 1 s.size) (by rw [ByteArray.size_extract];omega)
 unfold Mof.OfPost at hof
 have hfin : ∀ W x X1 lb,Mof.strip x = (Mof.ofM (s.extract 1 s.size)).1 -> Way w X C W X1 (learnC C f x).1 lb none 0 [] -> SendPost w X C (delivM C f (Mof.ofM (s.extract 1 s.size)).1).1 [] (.returned (.slice none 0 0)) W := fun W x X1 lb e1 hw => by
  rw [<- e1,delivM_strip]
  have e2 : (delivM C f x).1 = (learnC C f x).1 := by unfold delivM;rw [ht]
  rw [e2]
  exact hw.out
 generalize SendPost w X C (delivM C f (Mof.ofM (s.extract 1 s.size)).1).1 [] = Q at hfin ⊢
 rw [hz] at hof
 have HOF := hZ0 hof;have H := hZ0 h;have HT := hZ0 ht;have HFIN := hZ0 hfin
 clear hof hz h ht hfin
 obtain ⟨cb,hcb⟩ : ∃ cb,X.cb = cb := ⟨_,rfl⟩
 rw [hcb] at HN ⊢
 have HCB := hZ0 hcb;clear hcb
 go_enter Tryz.func11,Tryz.ntmps11
 go_wp2_with fail
 refine HN.out.mono ?_
 rintro e w2 ⟨rfl,rfl⟩
 go_wp2_with fail
 refine HOF.out.mono ?_
 rintro e w3 ⟨x,rfl,hsx,hxa,hk3⟩
 obtain ⟨Wz,W4,hWz,hst4,hb4,hk4⟩ := lay_msg w3 x
 have HW4 := hZ0 (CStep.refl H.out (hk3.then hk4))
 have HXA := hZ0 ((hxa.kept hk4 (fun k hk => hk.elim)).mono (Nat.zero_le _))
 have HSX := hZ0 hsx
 obtain ⟨bm,hbm⟩ : ∃ bm,w3.heap.size = bm := ⟨_,rfl⟩
 rw [hbm] at hst4 hb4
 have HB4 := hZ0 hb4
 unfold xagg
 obtain ⟨cs,hcs⟩ : ∃ cs,(xcell x).toArray = cs := ⟨_,rfl⟩
 rw [hcs] at hst4 ⊢
 have HCS := hZ0 hcs
 clear hk3 hk4 hsx hxa hb4 hcs
 go_wp2_with fail
 clear hWz hst4 hbm
 refine (outs_any W4).mono ?_
 rintro e w6 ⟨lb,rfl,hbx,hlb,hk6⟩
 have HW6 := hZ0 (Way.new HW4.out hbx hlb hk6)
 have hlm := run_loadMsg_has w6 bm x (HB4.out.kept hk6 (fun z => z))
 rw [HCS.out] at hlm
 have hxa6 : Mof.XAt w6 0 x := HXA.out.kept hk6 (fun k hk => hk.elim)
 have hln := learn_any HW6.out.st.at' f x hxa6
 unfold xagg at hln
 rw [HCS.out,HCB.out] at hln
 obtain ⟨lv,hlv⟩ : ∃ lv,(learnC C f x).2 = lv := ⟨_,rfl⟩
 rw [hlv] at hln
 have HLN := hZ0 hln
 clear hbx hlb hk6 hxa6 hln hlv HXA
 go_wp2_with fail
 clear hlm
 refine HLN.out.mono ?_
 rintro e w7 ⟨rfl,hs7⟩
 have HW7 := hZ0 (HW6.out.step hs7)
 have hb7 := hs7.at'.b
 rw [HCB.out] at hb7
 have y4 : w7.cell? ⟨cb,4,none⟩ = some (tptr X (learnC C f x).1) := hb7.cell 4
 rw [tptr_none ((learn_t C f x).1.trans HT.out)] at y4
 clear hs7 hb7
 cases lv
 ·go_wp2_with fail
  refine (told_any HW7.out.bx).mono ?_
  rintro e w8 ⟨rfl,rfl⟩
  have HF := hZ0 (HFIN.out _ x X lb HSX.out HW7.out)
  go_wp2
  exact HF.out
 ·go_wp2_with fail
  refine (writes_nil w7).mono ?_
  rintro e w8 ⟨rfl,hk8⟩
  have hw8 := HW7.out.quiet hk8
  have hb8 := hw8.st.at'.b
  rw [HCB.out] at hb8
  have z4 : w8.cell? ⟨cb,4,none⟩ = some (tptr X (learnC C f x).1) := hb8.cell 4
  rw [tptr_none ((learn_t C f x).1.trans HT.out)] at z4
  have HW8 := hZ0 hw8
  clear hk8 hw8 hb8 y4
  go_wp2_with fail
  refine (told_any HW8.out.bx).mono ?_
  rintro e w9 ⟨rfl,rfl⟩
  have HF := hZ0 (HFIN.out _ x X lb HSX.out HW8.out)
  go_wp2
  exact HF.out
end
end Cli
namespace Mof
open Plan Ops Ent Vn Msg Cof Wire
theorem rText_le (s : ByteArray) (m : Nat) (r : RS) : (rText s m r).1.size <= m := by
 unfold rText
 split
 ·exact Nat.zero_le _
 split
 ·exact Nat.zero_le _
 split
 ·exact Nat.zero_le _
 ·rw [ByteArray.size_extract];omega
def KeysOk (l : List PairR) : Prop := ∀ p ∈ l,p.key.size <= 8 /\ p.val.size <= 8
theorem rPairs_ok (s : ByteArray) (r : RS) (k : Nat) : KeysOk (rPairs s k r).1 := by
 induction k with
 | zero => exact fun p hp => by cases hp
 | succ k ih =>
  intro p hp
  rw [rPairs] at hp
  rcases List.mem_append.1 hp with hp | hp
  ·exact ih p hp
  ·rw [List.mem_singleton.1 hp]
   exact ⟨rText_le _ _ _,rText_le _ _ _⟩
theorem readP_ps (s : ByteArray) (c : Nat) (x : MsgR) (r : RS) (h : KeysOk x.ps) : KeysOk (readP s c x r).1.ps := by
 have hn : ∀ v,(setNum x c v).ps = x.ps := fun v => by
  unfold setNum
  by_cases h1 : c = 101
  ·rw [if_pos h1]
  rw [if_neg h1]
  by_cases h2 : c = 115
  ·rw [if_pos h2]
  rw [if_neg h2]
  by_cases h3 : c = 114
  ·rw [if_pos h3]
  rw [if_neg h3]
  by_cases h4 : c = 110
  ·rw [if_pos h4]
  rw [if_neg h4]
  by_cases h5 : c = 109
  ·rw [if_pos h5]
  rw [if_neg h5]
 have hi : ∀ {p : Prop} [Decidable p] {a b : MsgR × RS × Int},(p -> KeysOk a.1.ps) -> (¬ p -> KeysOk b.1.ps) -> KeysOk (if p then a else b).1.ps := fun {p} _ {a b} ha hb => by
  by_cases h : p
  ·rw [if_pos h];exact ha h
  ·rw [if_neg h];exact hb h
 unfold readP
 refine hi (fun _ => by rw [hn];exact h) (fun _ => ?_)
 refine hi (fun _ => h) (fun _ => ?_)
 refine hi (fun _ => h) (fun _ => ?_)
 refine hi (fun _ => h) (fun _ => ?_)
 refine hi (fun _ => h) (fun _ => ?_)
 refine hi (fun _ => rPairs_ok _ _ _) (fun _ => ?_)
 iterate 6 refine hi (fun _ => h) (fun _ => ?_)
 exact h
theorem readL_ps (s : ByteArray) (l : List Nat) (x : MsgR) (r : RS) (h : KeysOk x.ps) : KeysOk (readL s l x r).1.ps := by
 induction l generalizing x r with
 | nil => exact h
 | cons c l ih =>
  rw [readL]
  split
  ·exact readP_ps s c x r h
  ·exact ih _ _ (readP_ps s c x r h)
theorem ofM_ps (s : ByteArray) : KeysOk (ofM s).1.ps := by
 have hz : KeysOk zM.ps := fun p hp => by cases hp
 have hi : ∀ {p : Prop} [Decidable p] {a b : MsgR × Int},(p -> KeysOk a.1.ps) -> (¬ p -> KeysOk b.1.ps) -> KeysOk (if p then a else b).1.ps := fun {p} _ {a b} ha hb => by
  by_cases h : p
  ·rw [if_pos h];exact ha h
  ·rw [if_neg h];exact hb h
 unfold ofM
 refine hi (fun _ => hz) (fun _ => ?_)
 refine hi (fun _ => hz) (fun _ => ?_)
 refine hi (fun _ => hz) (fun _ => ?_)
 refine hi (fun _ => hz) (fun _ => ?_)
 refine hi (fun _ => hz) (fun _ => ?_)
 exact readL_ps _ _ _ _ hz
end Mof
namespace Cli
open Plan Ops Ent Msg Vn Go.Proofs.YtgbigpdiacjbgaaGreat.Ask
theorem atOk.tick {t : TS} (h : atOk t) : atOk (tickT t).1 := by
 unfold tickT
 split
 ·exact h
 split
 ·exact h
 ·exact h
theorem atOk.take {t : TS} (h : atOk t) (f : Int) {x : MsgR} (hx : 0 <= x.at' /\ x.at' <= maxTs) : atOk (takeT t f x).1 := by
 unfold takeT
 split
 ·exact h
 split
 ·unfold takeW
  split
  ·exact h
  split
  ·exact h
  split
  ·exact h
  ·exact ⟨hx,h.2⟩
 split
 ·unfold takeR
  split
  ·exact h
  split
  ·exact h
  split
  ·exact h
  ·unfold pageT
   split
   ·exact h
   ·exact h
 ·unfold takeA
  split
  ·exact h
  split
  ·exact h
  ·exact h
end Cli
end Go.Proofs.YtgbigpdiacjbgaaGreat

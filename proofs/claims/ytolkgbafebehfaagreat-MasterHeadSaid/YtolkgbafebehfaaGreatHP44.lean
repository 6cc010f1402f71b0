/- Part 45 of what the proof needs. -/
import Derived.Test.YtolkgbafebehfaaGreatHP43
import Derived.Deep.WholeRow
set_option linter.unusedSimpArgs false
set_option linter.unusedVariables false
set_option maxHeartbeats 32000000
set_option maxRecDepth 100000
namespace Go.Proofs.YtolkgbafebehfaaGreat
open Go.RowKit
set_option maxRecDepth 100000
namespace Mas
open Plan Vn Mst Wat IM Nte Msg
def nsaid (a : AnsR) : NoteR := ⟨8,0,0,0,none,0,[],0,none,0,[],none,0,⟨0,0,[]⟩,0,⟨0,0,0⟩,a⟩
def msg0 (k ep req n e : Int) : MsgR := ⟨k,ep,req,0,false,0,0,n,0,0,e,⟨#[]⟩,⟨#[]⟩,0,none,0,[],0,0,0,none,0,[],none,0,[],none,0,[],none,0,[]⟩
def askA (M : MR) (cl : Int) (x : MsgR) : AnsR := if (saidOf M.st cl).req < x.req then ⟨cl,x.req,(grantV M x).2,(grantV M x).1⟩ else saidOf M.st cl
def ask1 (M : MR) (cl : Int) (x : MsgR) : MR := if (saidOf M.st cl).req < x.req then writeM (grantM M x) (nsaid (askA M cl x)) else M
def replyR (s : StR) (a : AnsR) : MsgR := if a.e = 0 then msg0 14 0 a.req a.pin 0 else msg0 7 s.ep a.req (headI s.ms + 1) a.e
def askM (M : MR) (cl : Int) (x : MsgR) : MR := if x.req < 1 \/ x.req < (saidOf M.st cl).req then M else sendM (ask1 M cl x) (5 + cl) (replyR (ask1 M cl x).st (askA M cl x))
section
variable {w w' : World} {X X0 : MX} {M M0 : MR} {c k : Nat}
def storeMsg (a : Addr) (v : Value) : Sem Unit := storeVar 46 a v
theorem storeVar_msg (a : Addr) (v : Value) : storeVar 46 a v = storeMsg a v := rfl
attribute [local go_sem ↓] storeVar_msg
theorem kept_setRow (W : World) (g : Nat) (cs : Array Value) : Kept (fun k => k = g) W (W.setRow g cs) :=
 ⟨rfl,rfl,rfl,by unfold World.setRow;simp,fun k hk hF => by
  unfold World.setRow
  rw [Array.getElem?_modify,if_neg (fun e => hF e.symm)]⟩
theorem nu_said (a : AnsR) : NU (nsaid a) := ⟨by unfold nsaid;dsimp only;unfold maxTs;decide,by unfold nsaid;dsimp only;unfold maxTs;decide,by unfold nsaid;dsimp only;unfold maxTs;decide,by unfold nsaid;dsimp only;unfold maxTs;decide⟩
theorem nsaid_ok (w : World) (a : AnsR) : NOk w (nsaid a) := ⟨Src.nil _ _ _,Nat.le_refl _,Nat.zero_le _,Src.nil _ _ _,Nat.le_refl _,Nat.zero_le _,Src.nil _ _ _⟩
theorem nsaid_off (F : Nat -> Prop) (a : AnsR) : NOff F (nsaid a) := ⟨fun h => absurd h (Nat.lt_irrefl _),fun h => absurd h (Nat.lt_irrefl _),fun h => absurd h (Nat.lt_irrefl _)⟩
theorem msg0_ok (w : World) (k ep req n e : Int) : XOk w (msg0 k ep req n e) :=
 ⟨Src.nil _ _ _,Nat.le_refl _,Nat.zero_le _,Src.nil _ _ _,Src.nil _ _ _,fun y hy => (by cases hy),Nat.zero_le _,Src.nil _ _ _,Nat.zero_le _,fun y hy => (by cases hy),Src.nil _ _ _,Nat.zero_le _,by unfold msg0;dsimp only;unfold maxTs;decide⟩
theorem headI_in {s : StR} (h : Mst.Inv s) : -1 <= headI s.ms /\ headI s.ms < 4 := by
 rcases h.conf with ⟨_,h2,_⟩ | ⟨h2,_⟩
 ·rw [h2];exact ⟨by decide,by decide⟩
 ·cases hm : s.ms with
  | nil => exact ⟨by decide,by decide⟩
  | cons m r =>
   rw [hm] at h2
   unfold Plan.chk at h2
   have h0 : oneE m [] = 0 := by
    split at h2
    ·cases h2
    ·split at h2
     ·cases h2
     ·split at h2
      ·cases h2
      ·unfold chkFrom at h2
       split at h2
       ·assumption
       ·rename_i h3;exact absurd h2 h3
   unfold oneE at h0
   split at h0
   ·cases h0
   ·show -1 <= m.1 /\ m.1 < 4
    omega
theorem MOk.ask1 {w : World} (h : MOk M k) (cl : Int) (x : MsgR) (hok : XOk w x) : MOk (Mas.ask1 M cl x) k := by
 unfold Mas.ask1
 split
 ·exact (h.grantM x hok).write (nu_said _)
 ·exact h
theorem ask1_out (M : MR) (cl : Int) (x : MsgR) : (ask1 M cl x).out = M.out := by
 unfold ask1
 split
 ·rw [writeM_out,grantM_out]
 ·rfl
theorem MOk.askM {w : World} (h : MOk M k) (cl : Int) (x : MsgR) (hok : XOk w x) : MOk (Mas.askM M cl x) k := by
 unfold Mas.askM
 split
 ·exact h
 ·exact (h.ask1 cl x hok).send _ _
theorem Step.side {W W' : World} {X1 : MX} {M1 : MR} {b : Nat} (h : Step w X M W X1 M1) (hk : Kept (fun k => k = b) W W') (hw : w.heap.size <= b) (ho : ¬ foot X1 M1 b) : Step w X M W' X1 M1 :=
 ⟨⟨fun i => (h.at'.c i).kept hk (fun k hp e => ho ⟨i,e ▸ hp⟩),h.at'.ap⟩,h.g,h.k.trans hk (fun k e => .inr (by rw [e];exact hw)),h.fx⟩
theorem Stg.side {W W' : World} {X1 : MX} {M1 : MR} {b1 b2 : Nat} {t1 t2 : TypeId} {k1 k2 k3 : Array Value} (h : Stg w X M c b1 t1 k1 b2 t2 k2 W X1 M1) (hk : Kept (fun k => k = b2) W W') (hb : Has W' b2 t2 k3) (hne : b1 ≠ b2) (hw : w.heap.size <= b2) : Stg w X M c b1 t1 k1 b2 t2 k3 W' X1 M1 :=
 ⟨⟨⟨fun i => (h.s.at'.c i).kept hk (fun k hp e => h.o2 ⟨i,e ▸ hp⟩),h.s.at'.ap⟩,h.s.g,h.s.k.trans hk (fun k e => .inr (by rw [e];exact hw)),h.s.fx⟩,h.lb,h.h1.kept hk (fun e => hne e),hb,h.o1,h.o2⟩
theorem ask_fin (h : MAt w X M) (ho : M.out.length <= 100) (hm : MOk M k) (cl : Int) (hcl : 0 <= cl /\ cl < 3) (x : MsgR) (hx : XOk w x) (hAM : askM M cl x = sendM (ask1 M cl x) (5 + cl) (replyR (ask1 M cl x).st (askA M cl x))) (a : AnsR) (hA : askA M cl x = a) :
  ∀ W X1,Step w X M W X1 (ask1 M cl x) -> LgB X1 (ask1 M cl x).lg (c + 2) -> Calls Tryz.prog 143 #[.pointer (some ⟨X.mb,0,none⟩),.int .i64 (5 + cl),.agg (xcell (if a.e = 0 then msg0 14 0 a.req a.pin 0 else msg0 7 (ask1 M cl x).st.ep a.req (headI (ask1 M cl x).st.ms + 1) a.e)).toArray] W fun e w' => e = .returned (.tuple #[]) /\ MPost w X M c (.tuple #[]) (askM M cl x) 2 (.returned (.tuple #[])) w' := fun W X1 hs hl => by
 rw [hAM,hA]
 have hok : XOk W (replyR (ask1 M cl x).st a) := by
  unfold replyR
  split
  ·exact msg0_ok _ _ _ _ _ _
  ·exact msg0_ok _ _ _ _ _ _
 have hw := send_any hs.at' hl (by rw [ask1_out];omega) (5 + cl) _ hok
 rw [hs.mb] at hw
 refine hw.mono ?_
 rintro e w' ⟨rfl,X',g1,g2⟩
 exact ⟨rfl,rfl,X',hs.trans g1,g2⟩
theorem ask_out (h : MAt w X M) (hb : LgB X M.lg c) (hc : c <= 3000) (hm : MOk M k) (ho : M.out.length <= 100) (cl : Int) (hcl : 0 <= cl /\ cl < 3) (x : MsgR) (hx : XOk w x) (h0 : x.req < 1 \/ x.req < (saidOf M.st cl).req) :
  Calls Tryz.prog 61 #[.pointer (some ⟨X.mb,0,none⟩),.int .i64 cl,xagg x] w (MPost w X M c (.tuple #[]) (askM M cl x) 2) := by
 obtain ⟨W0,hW0⟩ : ∃ W0,w.alloc (.cells (xcell x).toArray 46) = W0 := ⟨_,rfl⟩
 have hk0 : Kept NoF w W0 := by rw [<- hW0];(repeat' (first | (with_reducible first | exact kR0 | apply kP0 | apply kN0 | apply kD0 | apply kA0) | (right;simp;done)))
 have hn0 : Has W0 w.heap.size 46 (xcell x).toArray := by rw [<- hW0];exact Has.new _ _ _
 have hoff : ¬ foot X M w.heap.size := fun hf => absurd (h.lt hf) (Nat.lt_irrefl _)
 have q2 : W0.cell? ⟨X.mb,2,none⟩ = some (.pointer (some ⟨X.sb,0,none⟩)) := (h.quiet hk0).cell (i := 2) rfl
 have hsa := said_at ((h.quiet hk0).c 2) cl
 obtain ⟨a0,a1,a2,a3,hsd⟩ : ∃ a0 a1 a2 a3,saidOf M.st cl = ⟨a0,a1,a2,a3⟩ := ⟨_,_,_,_,rfl⟩
 rw [hsd] at hsa
 have hA : askA M cl x = if a1 < x.req then ⟨cl,x.req,(grantV M x).2,(grantV M x).1⟩ else ⟨a0,a1,a2,a3⟩ := by unfold askA;rw [hsd]
 have hM1 : ask1 M cl x = if a1 < x.req then writeM (grantM M x) (nsaid (askA M cl x)) else M := by unfold ask1;rw [hsd]
 have hAM : askM M cl x = if x.req < 1 \/ x.req < a1 then M else sendM (ask1 M cl x) (5 + cl) (replyR (ask1 M cl x).st (askA M cl x)) := by unfold askM;rw [hsd]
 have hfin : ∀ W,Kept NoF w W -> MPost w X M c (.tuple #[]) (askM M cl x) 2 (.returned (.tuple #[])) W := fun W hW => by
  rw [hAM,if_pos (by rw [hsd] at h0;exact h0)]
  exact ⟨rfl,X,Step.refl h hW,hb.mono (by omega)⟩
 have hkx : ∀ W,Kept NoF W0 W -> Kept NoF w W := fun W hW => hk0.then hW
 rw [hsd] at h0
 dsimp only at h0
 have HF := hZ0 hfin;have HSA := hZ0 hsa;have HK0 := hZ0 hk0;have HN0 := hZ0 hn0;have H := hZ0 h;have HB := hZ0 hb;have HOFF := hZ0 hoff
 clear hfin hsa hk0 hn0 h hb hoff hc hm ho hx hA hM1 hAM hsd hcl hkx
 go_enter Tryz.func61,Tryz.ntmps61
 go_wp2_with fail
 clear q2
 refine HSA.out.mono ?_
 rintro e w2 ⟨rfl,hk2⟩
 obtain ⟨W3,hW3⟩ : ∃ W3,w2.alloc (.cells #[.int .i64 a0,.int .i64 a1,.int .i64 a2,.int .i64 a3] 73) = W3 := ⟨_,rfl⟩
 have hk3 : Kept NoF W0 W3 := by rw [<- hW3];(repeat' (first | (with_reducible first | exact kR0 | apply kP0 | apply kN0 | apply kD0 | apply kA0) | (exact hk2) | (right;simp;done)))
 have hc3 : Has W3 w2.heap.size 73 #[.int .i64 a0,.int .i64 a1,.int .i64 a2,.int .i64 a3] := by rw [<- hW3];exact Has.new _ _ _
 have s3 : Stg w X M c w.heap.size 46 (xcell x).toArray w2.heap.size 73 #[.int .i64 a0,.int .i64 a1,.int .i64 a2,.int .i64 a3] W3 X M :=
  ⟨Step.refl H.out (HK0.out.then hk3),HB.out,HN0.out.kept hk3 (fun z => z),hc3,HOFF.out,fun hf => by have := H.out.lt hf;have := hk2.size;have := HK0.out.size;omega⟩
 obtain ⟨ab,hab⟩ : ∃ ab,w2.heap.size = ab := ⟨_,rfl⟩
 rw [hab] at s3
 have r2 : W3.cell? ⟨w.heap.size,2,none⟩ = some (.int .i64 x.req) := s3.h1.cell 2
 have y1 : W3.cell? ⟨ab,1,none⟩ = some (.int .i64 a1) := s3.h2.cell 1
 have HS3 := hZ0 s3;have HKW := hZ0 (HK0.out.then hk2);clear s3 hc3 hk3 hk2
 have hkw : Kept NoF w W3 := by rw [<- hW3];(repeat' (first | (with_reducible first | exact kR0 | apply kP0 | apply kN0 | apply kD0 | apply kA0) | (exact HKW.out) | (right;simp;done)))
 have HF2 := hZ0 (HF.out _ hkw)
 clear hkw HKW
 by_cases h1 : x.req < 1
 ·go_wp2_with fail
  go_end0
  exact HF2.out
 ·have h2 : x.req < a1 := by omega
  go_wp2_with fail
  go_end0
  exact HF2.out
theorem ask_new (h : MAt w X M) (hb : LgB X M.lg c) (hc : c <= 3000) (hm : MOk M k) (ho : M.out.length <= 100) (cl : Int) (hcl : 0 <= cl /\ cl < 3) (x : MsgR) (hx : XOk w x) (h1 : ¬ x.req < 1) (h2 : (saidOf M.st cl).req < x.req) :
  Calls Tryz.prog 61 #[.pointer (some ⟨X.mb,0,none⟩),.int .i64 cl,xagg x] w (MPost w X M c (.tuple #[]) (askM M cl x) 2) := by
 obtain ⟨W0,hW0⟩ : ∃ W0,w.alloc (.cells (xcell x).toArray 46) = W0 := ⟨_,rfl⟩
 have hk0 : Kept NoF w W0 := by rw [<- hW0];(repeat' (first | (with_reducible first | exact kR0 | apply kP0 | apply kN0 | apply kD0 | apply kA0) | (right;simp;done)))
 have hn0 : Has W0 w.heap.size 46 (xcell x).toArray := by rw [<- hW0];exact Has.new _ _ _
 have hoff : ¬ foot X M w.heap.size := fun hf => absurd (h.lt hf) (Nat.lt_irrefl _)
 have q2 : W0.cell? ⟨X.mb,2,none⟩ = some (.pointer (some ⟨X.sb,0,none⟩)) := (h.quiet hk0).cell (i := 2) rfl
 have hsa := said_at ((h.quiet hk0).c 2) cl
 obtain ⟨a0,a1,a2,a3,hsd⟩ : ∃ a0 a1 a2 a3,saidOf M.st cl = ⟨a0,a1,a2,a3⟩ := ⟨_,_,_,_,rfl⟩
 rw [hsd] at hsa
 have hA : askA M cl x = if a1 < x.req then ⟨cl,x.req,(grantV M x).2,(grantV M x).1⟩ else ⟨a0,a1,a2,a3⟩ := by unfold askA;rw [hsd]
 have hM1 : ask1 M cl x = if a1 < x.req then writeM (grantM M x) (nsaid (askA M cl x)) else M := by unfold ask1;rw [hsd]
 have hAM : askM M cl x = if x.req < 1 \/ x.req < a1 then M else sendM (ask1 M cl x) (5 + cl) (replyR (ask1 M cl x).st (askA M cl x)) := by unfold askM;rw [hsd]
 rw [hsd] at h2
 dsimp only at h2
 rw [if_pos h2] at hA hM1
 rw [if_neg (by omega)] at hAM
 have hgr : ∀ W,Kept NoF W0 W -> ∀ d0 b2 t2 k2,Stg w X M c w.heap.size 46 (xcell x).toArray b2 t2 k2 W X M -> d0 = c -> Calls Tryz.prog 144 #[.pointer (some ⟨X.mb,0,none⟩),.agg (xcell x).toArray] W fun e w' => e = .returned (.tuple #[.int .i64 (grantV M x).1,.int .i64 (grantV M x).2]) /\ ∃ X',Stg w X M (c + 1) w.heap.size 46 (xcell x).toArray b2 t2 k2 w' X' (grantM M x) := fun W hW d0 b2 t2 k2 hs _ => by
  refine (mgrant_any hs.s.at' hb (by omega) hm x (hx.kept (hk0.then hW))).mono ?_
  rintro e w' ⟨rfl,X',g1,g2⟩
  exact ⟨rfl,X',hs.step g1 g2⟩
 have hMG := hm.grantM x hx
 have HMA : Hid (MOk (ask1 M cl x) k) := hZ0 (hm.ask1 cl x hx)
 obtain ⟨v1,hv1⟩ : ∃ v1,(grantV M x).1 = v1 := ⟨_,rfl⟩
 obtain ⟨v2,hv2⟩ : ∃ v2,(grantV M x).2 = v2 := ⟨_,rfl⟩
 rw [hv1,hv2] at hgr hA
 rw [hA] at hM1
 obtain ⟨G,hG⟩ : ∃ G,grantM M x = G := ⟨_,rfl⟩
 rw [hG] at hM1 hgr hMG
 have hwr : ∀ W X1 b2 t2 k2,Stg w X M (c + 1) w.heap.size 46 (xcell x).toArray b2 t2 k2 W X1 G -> Calls Tryz.prog 44 #[.pointer (some ⟨X.mb,0,none⟩),.agg (ncell (nsaid ⟨cl,x.req,v2,v1⟩)).toArray] W fun e w' => (∃ z,e = .returned (.int .i64 z)) /\ ∃ X',Stg w X M (c + 2) w.heap.size 46 (xcell x).toArray b2 t2 k2 w' X' (ask1 M cl x) := fun W X1 b2 t2 k2 hs => by
  have hw := write_any hs.s.at' hs.lb (by omega) hMG.st.inv.ok (nsaid ⟨cl,x.req,v2,v1⟩) (nsaid_ok _ _) (nu_said _) (nsaid_off _ _)
  rw [hs.s.mb] at hw
  refine hw.mono ?_
  rintro e w' ⟨rfl,X',g1,g2⟩
  rw [hM1]
  exact ⟨⟨_,rfl⟩,X',hs.step g1 g2⟩
 simp only [nsaid,ncell,List.length_nil] at hwr
 have HFIN := hZ0 (ask_fin (c := c) h ho hm cl hcl x hx hAM ⟨cl,x.req,v2,v1⟩ hA)
 have HGR := hZ0 hgr;have HWR := hZ0 hwr
 have HSA := hZ0 hsa;have HK0 := hZ0 hk0;have HN0 := hZ0 hn0;have H := hZ0 h;have HB := hZ0 hb;have HOFF := hZ0 hoff;have HCL := hZ0 hcl
 have hwrap : IntKind.i64.wrap (5 + cl) = 5 + cl := IntWalk.i64_in _ (by omega)
 have hle : ¬ x.req < a1 := by omega
 clear hsa hk0 hn0 h hb hoff hc hm ho hx hA hM1 hAM hsd hcl hgr hwr hMG hv1 hv2 hG
 go_enter Tryz.func61,Tryz.ntmps61
 go_wp2_with fail
 clear q2
 refine HSA.out.mono ?_
 rintro e w2 ⟨rfl,hk2⟩
 obtain ⟨W3,hW3⟩ : ∃ W3,w2.alloc (.cells #[.int .i64 a0,.int .i64 a1,.int .i64 a2,.int .i64 a3] 73) = W3 := ⟨_,rfl⟩
 have hk3 : Kept NoF W0 W3 := by rw [<- hW3];(repeat' (first | (with_reducible first | exact kR0 | apply kP0 | apply kN0 | apply kD0 | apply kA0) | (exact hk2) | (right;simp;done)))
 have hc3 : Has W3 w2.heap.size 73 #[.int .i64 a0,.int .i64 a1,.int .i64 a2,.int .i64 a3] := by rw [<- hW3];exact Has.new _ _ _
 have s3 : Stg w X M c w.heap.size 46 (xcell x).toArray w2.heap.size 73 #[.int .i64 a0,.int .i64 a1,.int .i64 a2,.int .i64 a3] W3 X M :=
  ⟨Step.refl H.out (HK0.out.then hk3),HB.out,HN0.out.kept hk3 (fun z => z),hc3,HOFF.out,fun hf => by have := H.out.lt hf;have := hk2.size;have := HK0.out.size;omega⟩
 obtain ⟨ab,hab⟩ : ∃ ab,w2.heap.size = ab := ⟨_,rfl⟩
 rw [hab] at s3
 have r2 : W3.cell? ⟨w.heap.size,2,none⟩ = some (.int .i64 x.req) := s3.h1.cell 2
 have y1 : W3.cell? ⟨ab,1,none⟩ = some (.int .i64 a1) := s3.h2.cell 1
 have HS3 := hZ0 s3;have HKW := hZ0 hk2;have HAB := hZ0 (show w.heap.size < ab by have := hk2.size;have := HN0.out.lt;omega);clear s3 hc3 hk3 hk2
 have hgt : a1 < x.req := h2
 have hgg := HGR.out W3 (by rw [<- hW3];(repeat' (first | (with_reducible first | exact kR0 | apply kP0 | apply kN0 | apply kD0 | apply kA0) | (exact HKW.out) | (right;simp;done)))) c _ _ _ HS3.out rfl
 have HGG := hZ0 hgg;clear hgg
 go_wp2_with (refine wpList_load_row rfl 46 (.tmp 5) rfl w.heap.size rfl 46 _ (0,0) _ HS3.out.h1 Tryz.underlying46 rfl (by kernel_rfl) ?_)
 clear r2 y1 hW3
 refine HGG.out.mono ?_
 rintro e w4 ⟨rfl,X4,s4⟩
 have r2 : w4.cell? ⟨w.heap.size,2,none⟩ = some (.int .i64 x.req) := s4.h1.cell 2
 have f0 := s4.h2.cell 0
 have f1 := s4.h2.cell 1
 have f2 := s4.h2.cell 2
 have f3 := s4.h2.cell 3
 have g0 := s4.h2.frozen 0
 have g1 := s4.h2.frozen 1
 have g2 := s4.h2.frozen 2
 have g3 := s4.h2.frozen 3
 simp only [List.getElem?_toArray,List.getElem?_cons_zero,List.getElem?_cons_succ] at f0 f1 f2 f3
 obtain ⟨Wp,hWp⟩ : ∃ Wp,((((w4.setCell ⟨ab,0,none⟩ (.int .i64 cl)).setCell ⟨ab,1,none⟩ (.int .i64 x.req)).setCell ⟨ab,2,none⟩ (.int .i64 v2)).setCell ⟨ab,3,none⟩ (.int .i64 v1)) = Wp := ⟨_,rfl⟩
 have hcp : Has Wp ab 73 #[.int .i64 cl,.int .i64 x.req,.int .i64 v2,.int .i64 v1] := by rw [<- hWp];exact (((s4.h2.put 0 _).put 1 _).put 2 _).put 3 _
 have hkp : Kept (fun k => k = ab) w4 Wp := by rw [<- hWp];exact ((((Kept.refl (fun k => k = ab) w4).put (.inl rfl)).put (.inl rfl)).put (.inl rfl)).put (.inl rfl)
 have s5 := s4.side hkp hcp (fun e => by have h1 := HAB.out;omega) (by have h1 := HAB.out;omega)
 have hwr := HWR.out Wp X4 _ _ _ s5
 have e0 : Wp.cell? ⟨ab,0,none⟩ = some (.int .i64 cl) := hcp.cell 0
 have e1 : Wp.cell? ⟨ab,1,none⟩ = some (.int .i64 x.req) := hcp.cell 1
 have e2 : Wp.cell? ⟨ab,2,none⟩ = some (.int .i64 v2) := hcp.cell 2
 have e3 : Wp.cell? ⟨ab,3,none⟩ = some (.int .i64 v1) := hcp.cell 3
 have HWQ := hZ0 hwr
 have HS4 := hZ0 s4;clear s4 s5 hcp hkp hwr
 go_wp2_with fail
 clear r2 f0 f1 f2 f3 g0 g1 g2 g3 e0 e1 e2 e3 hWp
 refine HWQ.out.mono ?_
 rintro e w6 ⟨⟨zw,rfl⟩,X6,s6⟩
 have HST := hZ0 s6;clear s6 HWQ HS4 HWR HGR HGG HS3
 have y1 : w6.cell? ⟨ab,1,none⟩ = some (.int .i64 x.req) := HST.out.h2.cell 1
 have y3 : w6.cell? ⟨ab,3,none⟩ = some (.int .i64 v1) := HST.out.h2.cell 3
 obtain ⟨rb,hrb⟩ : ∃ rb,w6.heap.size = rb := ⟨_,rfl⟩
 obtain ⟨Wz,hWz⟩ : ∃ Wz,w6.alloc (.cells #[.int .i64 0,.int .i64 0,.int .i64 0,.int .i64 0,.bool false,.int .u64 0,.int .u64 0,.int .i64 0,.int .i64 0,.int .i64 0,.int .i64 0,.string ⟨#[]⟩,.string ⟨#[]⟩,.int .i64 0,.slice none 0 0,.int .u64 0,.int .i64 0,.int .i64 0,.slice none 0 0,.slice none 0 0,.slice none 0 0,.slice none 0 0] 46) = Wz := ⟨_,rfl⟩
 have hzh : Has Wz rb 46 #[.int .i64 0,.int .i64 0,.int .i64 0,.int .i64 0,.bool false,.int .u64 0,.int .u64 0,.int .i64 0,.int .i64 0,.int .i64 0,.int .i64 0,.string ⟨#[]⟩,.string ⟨#[]⟩,.int .i64 0,.slice none 0 0,.int .u64 0,.int .i64 0,.int .i64 0,.slice none 0 0,.slice none 0 0,.slice none 0 0,.slice none 0 0] := by rw [<- hWz,<- hrb];exact Has.new _ _ _
 obtain ⟨W8,hW8⟩ : ∃ W8,w6.alloc (.cells #[.int .i64 14,.int .i64 0,.int .i64 x.req,.int .i64 0,.bool false,.int .u64 0,.int .u64 0,.int .i64 v1,.int .i64 0,.int .i64 0,.int .i64 0,.string ⟨#[]⟩,.string ⟨#[]⟩,.int .i64 0,.slice none 0 0,.int .u64 0,.int .i64 0,.int .i64 0,.slice none 0 0,.slice none 0 0,.slice none 0 0,.slice none 0 0] 46) = W8 := ⟨_,rfl⟩
 have hz8 : Wz.setRow rb #[.int .i64 14,.int .i64 0,.int .i64 x.req,.int .i64 0,.bool false,.int .u64 0,.int .u64 0,.int .i64 v1,.int .i64 0,.int .i64 0,.int .i64 0,.string ⟨#[]⟩,.string ⟨#[]⟩,.int .i64 0,.slice none 0 0,.int .u64 0,.int .i64 0,.int .i64 0,.slice none 0 0,.slice none 0 0,.slice none 0 0,.slice none 0 0] = W8 := by rw [<- hWz,<- hrb,World.setRow_alloc_new,hW8]
 have hst : (storeMsg ⟨rb,0,none⟩ (.agg #[.int .i64 14,.int .i64 0,.int .i64 x.req,.int .i64 0,.bool false,.int .u64 0,.int .u64 0,.int .i64 v1,.int .i64 0,.int .i64 0,.int .i64 0,.string ⟨#[]⟩,.string ⟨#[]⟩,.int .i64 0,.slice none 0 0,.int .u64 0,.int .i64 0,.int .i64 0,.slice none 0 0,.slice none 0 0,.slice none 0 0,.slice none 0 0])).run Tryz.prog Wz = .ok () W8 := by
  rw [<- hz8]
  exact run_storeVar_row Wz rb _ _ _ _ hzh (show (Tryz.prog.info? 46).map (·.size) = some 22 by kernel_rfl) rfl (by simp [Value.oneCell'])
 have hc8 : Has W8 rb 46 #[.int .i64 14,.int .i64 0,.int .i64 x.req,.int .i64 0,.bool false,.int .u64 0,.int .u64 0,.int .i64 v1,.int .i64 0,.int .i64 0,.int .i64 0,.string ⟨#[]⟩,.string ⟨#[]⟩,.int .i64 0,.slice none 0 0,.int .u64 0,.int .i64 0,.int .i64 0,.slice none 0 0,.slice none 0 0,.slice none 0 0,.slice none 0 0] := by rw [<- hW8,<- hrb];exact Has.new _ _ _
 have hk8 : Kept NoF w6 W8 := by rw [<- hW8];(repeat' (first | (with_reducible first | exact kR0 | apply kP0 | apply kN0 | apply kD0 | apply kA0) | (right;simp;done)))
 have s8 := HST.out.quiet hk8
 have y2 : W8.cell? ⟨ab,2,none⟩ = some (.int .i64 v2) := s8.h2.cell 2
 have HS8 := hZ0 s8;have HC8 := hZ0 hc8;have HRAB := hZ0 (show rb ≠ ab from fun e => by have := HST.out.h2.lt;omega)
 have HRW := hZ0 (show w.heap.size <= rb by have := HST.out.h1.lt;omega)
 have HROF := hZ0 (show ¬ foot X6 (ask1 M cl x) rb from fun hf => by have := HST.out.s.at'.lt hf;omega)
 clear s8 hc8 hk8 hzh hW8 hz8
 have hcase : v2 = 0 \/ v2 ≠ 0 := by omega
 rcases hcase with hu2 | hu2
 ·have hfin := HFIN.out
  rw [if_pos hu2] at hfin
  have hsend := hfin W8 _ HS8.out.s HS8.out.lb
  simp only [msg0,xcell,List.length_nil] at hsend
  have HSE := hZ0 hsend
  subst hu2
  clear hfin hsend
  go_wp2_with (refine wpList_load_row rfl 46 (.tmp 9) rfl rb rfl 46 _ (0,0) _ HC8.out Tryz.underlying46 rfl (by kernel_rfl) ?_)
  clear y1 y2 y3 hWz hst
  refine HSE.out.mono ?_
  rintro e w9 ⟨rfl,hq⟩
  have HQ := hZ0 hq;clear hq
  go_wp2
  go_end0
  exact HQ.out
 ·have hfin := HFIN.out
  rw [if_neg hu2] at hfin
  have hcf := conf_at (HS8.out.s.at'.c 2) HMA.out.st.inv.ok
  rw [HS8.out.s.sb] at hcf
  have hin := headI_in HMA.out.st.inv
  have hokS := HMA.out.st.inv.ok.m
  have q8 : W8.cell? ⟨X.mb,2,none⟩ = some (.pointer (some ⟨X.sb,0,none⟩)) := by
   have := HS8.out.s.at'.cell (i := 2) (v := .pointer (some ⟨X6.sb,0,none⟩)) rfl
   rw [HS8.out.s.mb,HS8.out.s.sb] at this;exact this
  obtain ⟨ST,hST⟩ : ∃ ST,(ask1 M cl x).st = ST := ⟨_,rfl⟩
  rw [hST] at hcf hfin hin hokS
  obtain ⟨ep,hep⟩ : ∃ ep,ST.ep = ep := ⟨_,rfl⟩
  obtain ⟨fl,hfl⟩ : ∃ fl,ST.fl = fl := ⟨_,rfl⟩
  obtain ⟨ms,hms⟩ : ∃ ms,ST.ms = ms := ⟨_,rfl⟩
  obtain ⟨hd,hhd⟩ : ∃ hd,headI ms = hd := ⟨_,rfl⟩
  rw [hep,hfl,hms] at hcf
  rw [hms] at hokS
  rw [hms,hhd] at hin
  rw [hep,hms,hhd] at hfin
  have hwr2 : IntKind.i64.wrap (hd + 1) = hd + 1 := IntWalk.i64_in _ (by omega)
  have hsend : ∀ W,Kept NoF W8 W -> ∀ W12,Kept (fun k => k = rb) W W12 -> ∀ o,_ := fun W hW W12 hK o => hfin o
  clear hsend
  simp only [msg0,xcell,List.length_nil] at hfin
  have HFI := hZ0 hfin;have HCF := hZ0 hcf;have HOK := hZ0 hokS
  have hhead := fun W A d (hs : Src W 2 A ms.length (mcells ms)) => phead_any W ep fl A d ms hs (by omega)
  simp only [hhd] at hhead
  have HHD := hZ0 hhead
  have hu2b : (v2 != 0) = true := by simpa using hu2
  clear hfin hcf hST hep hfl hms hhd hin hokS hhead
  go_wp2_with fail
  clear hst hWz y1 y2 y3 q8
  refine HCF.out.mono ?_
  rintro e w9 ⟨A,d,rfl,hn9,hk9⟩
  obtain ⟨W10,hW10⟩ : ∃ W10,w9.alloc (.cells #[.int .i64 ep,.slice A ms.length d,.int .u64 fl] 25) = W10 := ⟨_,rfl⟩
  have hk10 : Kept NoF W8 W10 := by rw [<- hW10];(repeat' (first | (with_reducible first | exact kR0 | apply kP0 | apply kN0 | apply kD0 | apply kA0) | (exact hk9) | (right;simp;done)))
  have hc10 : Has W10 w9.heap.size 25 #[.int .i64 ep,.slice A ms.length d,.int .u64 fl] := by rw [<- hW10];exact Has.new _ _ _
  have hn10 := NewSl.kept hn9 (w' := W10) (by rw [<- hW10];(repeat' (first | (with_reducible first | exact kR0 | apply kP0 | apply kN0 | apply kD0 | apply kA0) | (right;simp;done))))
  have hcrb : w9.heap.size ≠ rb := fun e => by have := HC8.out.lt;have := hk9.size;omega
  obtain ⟨cb,hcb⟩ : ∃ cb,w9.heap.size = cb := ⟨_,rfl⟩
  rw [hcb] at hc10 hcrb
  have hce : ∀ W,Kept NoF W10 W -> W.cell? ⟨ab,1,none⟩ = some (.int .i64 x.req) /\ W.cell? ⟨ab,2,none⟩ = some (.int .i64 v2) /\ W.cell? ⟨cb,0,none⟩ = some (.int .i64 ep) /\ W.cell? ⟨cb,1,none⟩ = some (.slice A ms.length d) /\ W.cell? ⟨cb,2,none⟩ = some (.int .u64 fl) := fun W hW => by
   have g1 := (HS8.out.h2.kept (hk10.then hW) (fun z => z))
   have g2 := hc10.kept hW (fun z => z)
   exact ⟨g1.cell 1,g1.cell 2,g2.cell 0,g2.cell 1,g2.cell 2⟩
  have hsto : ∀ W,Kept NoF W10 W -> ∃ W12,(storeMsg ⟨rb,0,none⟩ (.agg #[.int .i64 7,.int .i64 ep,.int .i64 x.req,.int .i64 0,.bool false,.int .u64 0,.int .u64 0,.int .i64 (hd + 1),.int .i64 0,.int .i64 0,.int .i64 v2,.string ⟨#[]⟩,.string ⟨#[]⟩,.int .i64 0,.slice none 0 0,.int .u64 0,.int .i64 0,.int .i64 0,.slice none 0 0,.slice none 0 0,.slice none 0 0,.slice none 0 0])).run Tryz.prog W = .ok () W12 /\ Has W12 rb 46 #[.int .i64 7,.int .i64 ep,.int .i64 x.req,.int .i64 0,.bool false,.int .u64 0,.int .u64 0,.int .i64 (hd + 1),.int .i64 0,.int .i64 0,.int .i64 v2,.string ⟨#[]⟩,.string ⟨#[]⟩,.int .i64 0,.slice none 0 0,.int .u64 0,.int .i64 0,.int .i64 0,.slice none 0 0,.slice none 0 0,.slice none 0 0,.slice none 0 0] /\ Kept (fun k => k = rb) W W12 /\ (W12.cell? ⟨ab,1,none⟩ = some (.int .i64 x.req) /\ W12.cell? ⟨ab,2,none⟩ = some (.int .i64 v2) /\ W12.cell? ⟨cb,0,none⟩ = some (.int .i64 ep) /\ W12.cell? ⟨cb,1,none⟩ = some (.slice A ms.length d) /\ W12.cell? ⟨cb,2,none⟩ = some (.int .u64 fl)) := fun W hW => by
   have hw0 := HC8.out.kept (hk10.then hW) (fun z => z)
   have hkr : Kept (fun k => k = rb) W (W.setRow rb #[.int .i64 7,.int .i64 ep,.int .i64 x.req,.int .i64 0,.bool false,.int .u64 0,.int .u64 0,.int .i64 (hd + 1),.int .i64 0,.int .i64 0,.int .i64 v2,.string ⟨#[]⟩,.string ⟨#[]⟩,.int .i64 0,.slice none 0 0,.int .u64 0,.int .i64 0,.int .i64 0,.slice none 0 0,.slice none 0 0,.slice none 0 0,.slice none 0 0]) := kept_setRow _ _ _
   have g1 := (HS8.out.h2.kept (hk10.then hW) (fun z => z)).kept hkr (fun e => HRAB.out e.symm)
   have g2 := (hc10.kept hW (fun z => z)).kept hkr hcrb
   exact ⟨_,run_storeVar_row W rb _ _ _ _ hw0 (show (Tryz.prog.info? 46).map (·.size) = some 22 by kernel_rfl) rfl (by simp [Value.oneCell']),setRow_heap W rb _ _ _ _ hw0,hkr,g1.cell 1,g1.cell 2,g2.cell 0,g2.cell 1,g2.cell 2⟩
  have hhd2 : ∀ W,Kept NoF W10 W -> _ := fun W hW => HHD.out W A d (Src.of_own (NewSl.kept hn10 hW).1)
  have HCE := hZ0 hce;have HSTO := hZ0 hsto;have HH2 := hZ0 hhd2;have HK10 := hZ0 hk10
  clear hk9 hn9 hk10 hc10 hn10 hcrb hhd2
  have HS := hZ0 (Kept.refl NoF W10)
  obtain ⟨z1,z2,z3,z4,z5⟩ := hce W10 (Kept.refl _ _)
  clear hce hsto
  go_wp2_with fail
  go_region_held3 (fun W => W.cell? ⟨ab,1,none⟩ = some (.int .i64 x.req) /\ W.cell? ⟨ab,2,none⟩ = some (.int .i64 v2) /\ W.cell? ⟨cb,0,none⟩ = some (.int .i64 ep) /\ W.cell? ⟨cb,1,none⟩ = some (.slice A ms.length d) /\ W.cell? ⟨cb,2,none⟩ = some (.int .u64 fl))
   (first | with_reducible exact hs12 | with_reducible exact HCE.out _ HS.out | exact HCE.out _ HS.out.drew | exact hs12)
   (first | (go_at_call 145;((with_reducible refine (HH2.out _ ?_).mono ?_);exact (by (repeat' (first | (with_reducible first | exact kR0 | apply kP0 | apply kN0 | apply kD0 | apply kA0) | (exact HS.out) | (right;simp;done))));rintro e w11 ⟨rfl,hk0⟩;have hk := Kept.then (F := NoF) (a := W10) (by (repeat' (first | (with_reducible first | exact kR0 | apply kP0 | apply kN0 | apply kD0 | apply kA0) | (exact HS.out) | (right;simp;done)))) hk0;clear HS hk0;have HS := hZ0 hk;clear hk;obtain ⟨W12,hst,hh12,hk12,hs12⟩ := HSTO.out w11 HS.out;have HH12 := hZ0 hh12;have HK12 := hZ0 hk12;clear hh12 hk12)))
  clear z1 z2 z3 z4 z5
  have s12 := Step.side (HS8.out.s.quiet (HK10.out.then HS.out)) HK12.out HRW.out HROF.out
  have hse := HFI.out W12 _ s12 HS8.out.lb
  have HSE := hZ0 hse
  clear hse s12 hst hs12
  go_wp2_with (refine wpList_load_row rfl 46 (.tmp 9) rfl rb rfl 46 _ (0,0) _ HH12.out Tryz.underlying46 rfl (by kernel_rfl) ?_)
  refine HSE.out.mono ?_
  rintro e w13 ⟨rfl,hq⟩
  have HQ := hZ0 hq;clear hq
  go_wp2
  go_end0
  exact HQ.out
theorem ask_same (h : MAt w X M) (hb : LgB X M.lg c) (hc : c <= 3000) (hm : MOk M k) (ho : M.out.length <= 100) (cl : Int) (hcl : 0 <= cl /\ cl < 3) (x : MsgR) (hx : XOk w x) (h1 : ¬ x.req < 1) (h2 : ¬ (saidOf M.st cl).req < x.req) (h3 : ¬ x.req < (saidOf M.st cl).req) :
  Calls Tryz.prog 61 #[.pointer (some ⟨X.mb,0,none⟩),.int .i64 cl,xagg x] w (MPost w X M c (.tuple #[]) (askM M cl x) 2) := by
 obtain ⟨W0,hW0⟩ : ∃ W0,w.alloc (.cells (xcell x).toArray 46) = W0 := ⟨_,rfl⟩
 have hk0 : Kept NoF w W0 := by rw [<- hW0];(repeat' (first | (with_reducible first | exact kR0 | apply kP0 | apply kN0 | apply kD0 | apply kA0) | (right;simp;done)))
 have hn0 : Has W0 w.heap.size 46 (xcell x).toArray := by rw [<- hW0];exact Has.new _ _ _
 have hoff : ¬ foot X M w.heap.size := fun hf => absurd (h.lt hf) (Nat.lt_irrefl _)
 have q2 : W0.cell? ⟨X.mb,2,none⟩ = some (.pointer (some ⟨X.sb,0,none⟩)) := (h.quiet hk0).cell (i := 2) rfl
 have hsa := said_at ((h.quiet hk0).c 2) cl
 obtain ⟨a0,a1,a2,a3,hsd⟩ : ∃ a0 a1 a2 a3,saidOf M.st cl = ⟨a0,a1,a2,a3⟩ := ⟨_,_,_,_,rfl⟩
 rw [hsd] at hsa
 have hA : askA M cl x = if a1 < x.req then ⟨cl,x.req,(grantV M x).2,(grantV M x).1⟩ else ⟨a0,a1,a2,a3⟩ := by unfold askA;rw [hsd]
 have hM1 : ask1 M cl x = if a1 < x.req then writeM (grantM M x) (nsaid (askA M cl x)) else M := by unfold ask1;rw [hsd]
 have hAM : askM M cl x = if x.req < 1 \/ x.req < a1 then M else sendM (ask1 M cl x) (5 + cl) (replyR (ask1 M cl x).st (askA M cl x)) := by unfold askM;rw [hsd]
 rw [hsd] at h2 h3
 dsimp only at h2 h3
 rw [if_neg h2] at hA hM1
 rw [if_neg (by omega)] at hAM
 have HMA : Hid (MOk (ask1 M cl x) k) := hZ0 (hm.ask1 cl x hx)
 have HFIN := hZ0 (ask_fin (c := c) h ho hm cl hcl x hx hAM ⟨a0,a1,a2,a3⟩ hA)
 have HM1 := hZ0 hM1
 have HSA := hZ0 hsa;have HK0 := hZ0 hk0;have HN0 := hZ0 hn0;have H := hZ0 h;have HB := hZ0 hb;have HOFF := hZ0 hoff;have HCL := hZ0 hcl
 have hwrap : IntKind.i64.wrap (5 + cl) = 5 + cl := IntWalk.i64_in _ (by omega)
 clear hsa hk0 hn0 h hb hoff hc hm ho hx hA hM1 hAM hsd hcl
 go_enter Tryz.func61,Tryz.ntmps61
 go_wp2_with fail
 clear q2
 refine HSA.out.mono ?_
 rintro e w2 ⟨rfl,hk2⟩
 obtain ⟨W3,hW3⟩ : ∃ W3,w2.alloc (.cells #[.int .i64 a0,.int .i64 a1,.int .i64 a2,.int .i64 a3] 73) = W3 := ⟨_,rfl⟩
 have hk3 : Kept NoF W0 W3 := by rw [<- hW3];(repeat' (first | (with_reducible first | exact kR0 | apply kP0 | apply kN0 | apply kD0 | apply kA0) | (exact hk2) | (right;simp;done)))
 have hc3 : Has W3 w2.heap.size 73 #[.int .i64 a0,.int .i64 a1,.int .i64 a2,.int .i64 a3] := by rw [<- hW3];exact Has.new _ _ _
 have s3 : Stg w X M c w.heap.size 46 (xcell x).toArray w2.heap.size 73 #[.int .i64 a0,.int .i64 a1,.int .i64 a2,.int .i64 a3] W3 X M :=
  ⟨Step.refl H.out (HK0.out.then hk3),HB.out,HN0.out.kept hk3 (fun z => z),hc3,HOFF.out,fun hf => by have := H.out.lt hf;have := hk2.size;have := HK0.out.size;omega⟩
 obtain ⟨ab,hab⟩ : ∃ ab,w2.heap.size = ab := ⟨_,rfl⟩
 rw [hab] at s3
 have r2 : W3.cell? ⟨w.heap.size,2,none⟩ = some (.int .i64 x.req) := s3.h1.cell 2
 have y1 : W3.cell? ⟨ab,1,none⟩ = some (.int .i64 a1) := s3.h2.cell 1
 have HS3 := hZ0 s3;clear s3 hc3 hk3 hk2
 have y0 := y1
 clear y0
 have s3 : Stg w X M (c + 2) w.heap.size 46 (xcell x).toArray ab 73 #[.int .i64 a0,.int .i64 a1,.int .i64 a2,.int .i64 a3] W3 X (ask1 M cl x) := by rw [HM1.out];exact HS3.out.mono (by omega)
 have HST := hZ0 s3;clear s3
 clear y1
 have y1 : W3.cell? ⟨ab,1,none⟩ = some (.int .i64 a1) := HST.out.h2.cell 1
 have y3 : W3.cell? ⟨ab,3,none⟩ = some (.int .i64 a3) := HST.out.h2.cell 3
 obtain ⟨rb,hrb⟩ : ∃ rb,W3.heap.size = rb := ⟨_,rfl⟩
 obtain ⟨Wz,hWz⟩ : ∃ Wz,W3.alloc (.cells #[.int .i64 0,.int .i64 0,.int .i64 0,.int .i64 0,.bool false,.int .u64 0,.int .u64 0,.int .i64 0,.int .i64 0,.int .i64 0,.int .i64 0,.string ⟨#[]⟩,.string ⟨#[]⟩,.int .i64 0,.slice none 0 0,.int .u64 0,.int .i64 0,.int .i64 0,.slice none 0 0,.slice none 0 0,.slice none 0 0,.slice none 0 0] 46) = Wz := ⟨_,rfl⟩
 have hzh : Has Wz rb 46 #[.int .i64 0,.int .i64 0,.int .i64 0,.int .i64 0,.bool false,.int .u64 0,.int .u64 0,.int .i64 0,.int .i64 0,.int .i64 0,.int .i64 0,.string ⟨#[]⟩,.string ⟨#[]⟩,.int .i64 0,.slice none 0 0,.int .u64 0,.int .i64 0,.int .i64 0,.slice none 0 0,.slice none 0 0,.slice none 0 0,.slice none 0 0] := by rw [<- hWz,<- hrb];exact Has.new _ _ _
 obtain ⟨W8,hW8⟩ : ∃ W8,W3.alloc (.cells #[.int .i64 14,.int .i64 0,.int .i64 a1,.int .i64 0,.bool false,.int .u64 0,.int .u64 0,.int .i64 a3,.int .i64 0,.int .i64 0,.int .i64 0,.string ⟨#[]⟩,.string ⟨#[]⟩,.int .i64 0,.slice none 0 0,.int .u64 0,.int .i64 0,.int .i64 0,.slice none 0 0,.slice none 0 0,.slice none 0 0,.slice none 0 0] 46) = W8 := ⟨_,rfl⟩
 have hz8 : Wz.setRow rb #[.int .i64 14,.int .i64 0,.int .i64 a1,.int .i64 0,.bool false,.int .u64 0,.int .u64 0,.int .i64 a3,.int .i64 0,.int .i64 0,.int .i64 0,.string ⟨#[]⟩,.string ⟨#[]⟩,.int .i64 0,.slice none 0 0,.int .u64 0,.int .i64 0,.int .i64 0,.slice none 0 0,.slice none 0 0,.slice none 0 0,.slice none 0 0] = W8 := by rw [<- hWz,<- hrb,World.setRow_alloc_new,hW8]
 have hst : (storeMsg ⟨rb,0,none⟩ (.agg #[.int .i64 14,.int .i64 0,.int .i64 a1,.int .i64 0,.bool false,.int .u64 0,.int .u64 0,.int .i64 a3,.int .i64 0,.int .i64 0,.int .i64 0,.string ⟨#[]⟩,.string ⟨#[]⟩,.int .i64 0,.slice none 0 0,.int .u64 0,.int .i64 0,.int .i64 0,.slice none 0 0,.slice none 0 0,.slice none 0 0,.slice none 0 0])).run Tryz.prog Wz = .ok () W8 := by
  rw [<- hz8]
  exact run_storeVar_row Wz rb _ _ _ _ hzh (show (Tryz.prog.info? 46).map (·.size) = some 22 by kernel_rfl) rfl (by simp [Value.oneCell'])
 have hc8 : Has W8 rb 46 #[.int .i64 14,.int .i64 0,.int .i64 a1,.int .i64 0,.bool false,.int .u64 0,.int .u64 0,.int .i64 a3,.int .i64 0,.int .i64 0,.int .i64 0,.string ⟨#[]⟩,.string ⟨#[]⟩,.int .i64 0,.slice none 0 0,.int .u64 0,.int .i64 0,.int .i64 0,.slice none 0 0,.slice none 0 0,.slice none 0 0,.slice none 0 0] := by rw [<- hW8,<- hrb];exact Has.new _ _ _
 have hk8 : Kept NoF W3 W8 := by rw [<- hW8];(repeat' (first | (with_reducible first | exact kR0 | apply kP0 | apply kN0 | apply kD0 | apply kA0) | (right;simp;done)))
 have s8 := HST.out.quiet hk8
 have y2 : W8.cell? ⟨ab,2,none⟩ = some (.int .i64 a2) := s8.h2.cell 2
 have HS8 := hZ0 s8;have HC8 := hZ0 hc8;have HRAB := hZ0 (show rb ≠ ab from fun e => by have := HST.out.h2.lt;omega)
 have HRW := hZ0 (show w.heap.size <= rb by have := HST.out.h1.lt;omega)
 have HROF := hZ0 (show ¬ foot X (ask1 M cl x) rb from fun hf => by have := HST.out.s.at'.lt hf;omega)
 clear s8 hc8 hk8 hzh hW8 hz8
 have hcase : a2 = 0 \/ a2 ≠ 0 := by omega
 rcases hcase with hu2 | hu2
 ·have hfin := HFIN.out
  rw [if_pos hu2] at hfin
  have hsend := hfin W8 _ HS8.out.s HS8.out.lb
  simp only [msg0,xcell,List.length_nil] at hsend
  have HSE := hZ0 hsend
  subst hu2
  clear hfin hsend
  go_wp2_with (refine wpList_load_row rfl 46 (.tmp 9) rfl rb rfl 46 _ (0,0) _ HC8.out Tryz.underlying46 rfl (by kernel_rfl) ?_)
  clear y1 y2 y3 hWz hst r2 hW3
  refine HSE.out.mono ?_
  rintro e w9 ⟨rfl,hq⟩
  have HQ := hZ0 hq;clear hq
  go_wp2
  go_end0
  exact HQ.out
 ·have hfin := HFIN.out
  rw [if_neg hu2] at hfin
  have hcf := conf_at (HS8.out.s.at'.c 2) HMA.out.st.inv.ok
  rw [HS8.out.s.sb] at hcf
  have hin := headI_in HMA.out.st.inv
  have hokS := HMA.out.st.inv.ok.m
  have q8 : W8.cell? ⟨X.mb,2,none⟩ = some (.pointer (some ⟨X.sb,0,none⟩)) := by
   have := HS8.out.s.at'.cell (i := 2) (v := .pointer (some ⟨X.sb,0,none⟩)) rfl
   rw [HS8.out.s.mb,HS8.out.s.sb] at this;exact this
  obtain ⟨ST,hST⟩ : ∃ ST,(ask1 M cl x).st = ST := ⟨_,rfl⟩
  rw [hST] at hcf hfin hin hokS
  obtain ⟨ep,hep⟩ : ∃ ep,ST.ep = ep := ⟨_,rfl⟩
  obtain ⟨fl,hfl⟩ : ∃ fl,ST.fl = fl := ⟨_,rfl⟩
  obtain ⟨ms,hms⟩ : ∃ ms,ST.ms = ms := ⟨_,rfl⟩
  obtain ⟨hd,hhd⟩ : ∃ hd,headI ms = hd := ⟨_,rfl⟩
  rw [hep,hfl,hms] at hcf
  rw [hms] at hokS
  rw [hms,hhd] at hin
  rw [hep,hms,hhd] at hfin
  have hwr2 : IntKind.i64.wrap (hd + 1) = hd + 1 := IntWalk.i64_in _ (by omega)
  have hsend : ∀ W,Kept NoF W8 W -> ∀ W12,Kept (fun k => k = rb) W W12 -> ∀ o,_ := fun W hW W12 hK o => hfin o
  clear hsend
  simp only [msg0,xcell,List.length_nil] at hfin
  have HFI := hZ0 hfin;have HCF := hZ0 hcf;have HOK := hZ0 hokS
  have hhead := fun W A d (hs : Src W 2 A ms.length (mcells ms)) => phead_any W ep fl A d ms hs (by omega)
  simp only [hhd] at hhead
  have HHD := hZ0 hhead
  have hu2b : (a2 != 0) = true := by simpa using hu2
  clear hfin hcf hST hep hfl hms hhd hin hokS hhead
  go_wp2_with fail
  clear hst hWz y1 y2 y3 q8 r2 hW3
  refine HCF.out.mono ?_
  rintro e w9 ⟨A,d,rfl,hn9,hk9⟩
  obtain ⟨W10,hW10⟩ : ∃ W10,w9.alloc (.cells #[.int .i64 ep,.slice A ms.length d,.int .u64 fl] 25) = W10 := ⟨_,rfl⟩
  have hk10 : Kept NoF W8 W10 := by rw [<- hW10];(repeat' (first | (with_reducible first | exact kR0 | apply kP0 | apply kN0 | apply kD0 | apply kA0) | (exact hk9) | (right;simp;done)))
  have hc10 : Has W10 w9.heap.size 25 #[.int .i64 ep,.slice A ms.length d,.int .u64 fl] := by rw [<- hW10];exact Has.new _ _ _
  have hn10 := NewSl.kept hn9 (w' := W10) (by rw [<- hW10];(repeat' (first | (with_reducible first | exact kR0 | apply kP0 | apply kN0 | apply kD0 | apply kA0) | (right;simp;done))))
  have hcrb : w9.heap.size ≠ rb := fun e => by have := HC8.out.lt;have := hk9.size;omega
  obtain ⟨cb,hcb⟩ : ∃ cb,w9.heap.size = cb := ⟨_,rfl⟩
  rw [hcb] at hc10 hcrb
  have hce : ∀ W,Kept NoF W10 W -> W.cell? ⟨ab,1,none⟩ = some (.int .i64 a1) /\ W.cell? ⟨ab,2,none⟩ = some (.int .i64 a2) /\ W.cell? ⟨cb,0,none⟩ = some (.int .i64 ep) /\ W.cell? ⟨cb,1,none⟩ = some (.slice A ms.length d) /\ W.cell? ⟨cb,2,none⟩ = some (.int .u64 fl) := fun W hW => by
   have g1 := (HS8.out.h2.kept (hk10.then hW) (fun z => z))
   have g2 := hc10.kept hW (fun z => z)
   exact ⟨g1.cell 1,g1.cell 2,g2.cell 0,g2.cell 1,g2.cell 2⟩
  have hsto : ∀ W,Kept NoF W10 W -> ∃ W12,(storeMsg ⟨rb,0,none⟩ (.agg #[.int .i64 7,.int .i64 ep,.int .i64 a1,.int .i64 0,.bool false,.int .u64 0,.int .u64 0,.int .i64 (hd + 1),.int .i64 0,.int .i64 0,.int .i64 a2,.string ⟨#[]⟩,.string ⟨#[]⟩,.int .i64 0,.slice none 0 0,.int .u64 0,.int .i64 0,.int .i64 0,.slice none 0 0,.slice none 0 0,.slice none 0 0,.slice none 0 0])).run Tryz.prog W = .ok () W12 /\ Has W12 rb 46 #[.int .i64 7,.int .i64 ep,.int .i64 a1,.int .i64 0,.bool false,.int .u64 0,.int .u64 0,.int .i64 (hd + 1),.int .i64 0,.int .i64 0,.int .i64 a2,.string ⟨#[]⟩,.string ⟨#[]⟩,.int .i64 0,.slice none 0 0,.int .u64 0,.int .i64 0,.int .i64 0,.slice none 0 0,.slice none 0 0,.slice none 0 0,.slice none 0 0] /\ Kept (fun k => k = rb) W W12 /\ (W12.cell? ⟨ab,1,none⟩ = some (.int .i64 a1) /\ W12.cell? ⟨ab,2,none⟩ = some (.int .i64 a2) /\ W12.cell? ⟨cb,0,none⟩ = some (.int .i64 ep) /\ W12.cell? ⟨cb,1,none⟩ = some (.slice A ms.length d) /\ W12.cell? ⟨cb,2,none⟩ = some (.int .u64 fl)) := fun W hW => by
   have hw0 := HC8.out.kept (hk10.then hW) (fun z => z)
   have hkr : Kept (fun k => k = rb) W (W.setRow rb #[.int .i64 7,.int .i64 ep,.int .i64 a1,.int .i64 0,.bool false,.int .u64 0,.int .u64 0,.int .i64 (hd + 1),.int .i64 0,.int .i64 0,.int .i64 a2,.string ⟨#[]⟩,.string ⟨#[]⟩,.int .i64 0,.slice none 0 0,.int .u64 0,.int .i64 0,.int .i64 0,.slice none 0 0,.slice none 0 0,.slice none 0 0,.slice none 0 0]) := kept_setRow _ _ _
   have g1 := (HS8.out.h2.kept (hk10.then hW) (fun z => z)).kept hkr (fun e => HRAB.out e.symm)
   have g2 := (hc10.kept hW (fun z => z)).kept hkr hcrb
   exact ⟨_,run_storeVar_row W rb _ _ _ _ hw0 (show (Tryz.prog.info? 46).map (·.size) = some 22 by kernel_rfl) rfl (by simp [Value.oneCell']),setRow_heap W rb _ _ _ _ hw0,hkr,g1.cell 1,g1.cell 2,g2.cell 0,g2.cell 1,g2.cell 2⟩
  have hhd2 : ∀ W,Kept NoF W10 W -> _ := fun W hW => HHD.out W A d (Src.of_own (NewSl.kept hn10 hW).1)
  have HCE := hZ0 hce;have HSTO := hZ0 hsto;have HH2 := hZ0 hhd2;have HK10 := hZ0 hk10
  clear hk9 hn9 hk10 hc10 hn10 hcrb hhd2
  have HS := hZ0 (Kept.refl NoF W10)
  obtain ⟨z1,z2,z3,z4,z5⟩ := hce W10 (Kept.refl _ _)
  clear hce hsto
  go_wp2_with fail
  go_region_held3 (fun W => W.cell? ⟨ab,1,none⟩ = some (.int .i64 a1) /\ W.cell? ⟨ab,2,none⟩ = some (.int .i64 a2) /\ W.cell? ⟨cb,0,none⟩ = some (.int .i64 ep) /\ W.cell? ⟨cb,1,none⟩ = some (.slice A ms.length d) /\ W.cell? ⟨cb,2,none⟩ = some (.int .u64 fl))
   (first | with_reducible exact hs12 | with_reducible exact HCE.out _ HS.out | exact HCE.out _ HS.out.drew | exact hs12)
   (first | (go_at_call 145;((with_reducible refine (HH2.out _ ?_).mono ?_);exact (by (repeat' (first | (with_reducible first | exact kR0 | apply kP0 | apply kN0 | apply kD0 | apply kA0) | (exact HS.out) | (right;simp;done))));rintro e w11 ⟨rfl,hk0⟩;have hk := Kept.then (F := NoF) (a := W10) (by (repeat' (first | (with_reducible first | exact kR0 | apply kP0 | apply kN0 | apply kD0 | apply kA0) | (exact HS.out) | (right;simp;done)))) hk0;clear HS hk0;have HS := hZ0 hk;clear hk;obtain ⟨W12,hst,hh12,hk12,hs12⟩ := HSTO.out w11 HS.out;have HH12 := hZ0 hh12;have HK12 := hZ0 hk12;clear hh12 hk12)))
  clear z1 z2 z3 z4 z5
  have s12 := Step.side (HS8.out.s.quiet (HK10.out.then HS.out)) HK12.out HRW.out HROF.out
  have hse := HFI.out W12 _ s12 HS8.out.lb
  have HSE := hZ0 hse
  clear hse s12 hst hs12
  go_wp2_with (refine wpList_load_row rfl 46 (.tmp 9) rfl rb rfl 46 _ (0,0) _ HH12.out Tryz.underlying46 rfl (by kernel_rfl) ?_)
  refine HSE.out.mono ?_
  rintro e w13 ⟨rfl,hq⟩
  have HQ := hZ0 hq;clear hq
  go_wp2
  go_end0
  exact HQ.out
theorem ask_any (h : MAt w X M) (hb : LgB X M.lg c) (hc : c <= 3000) (hm : MOk M k) (ho : M.out.length <= 100) (cl : Int) (hcl : 0 <= cl /\ cl < 3) (x : MsgR) (hx : XOk w x) :
  Calls Tryz.prog 61 #[.pointer (some ⟨X.mb,0,none⟩),.int .i64 cl,xagg x] w (MPost w X M c (.tuple #[]) (askM M cl x) 2) := by
 by_cases h0 : x.req < 1 \/ x.req < (saidOf M.st cl).req
 ·exact ask_out h hb hc hm ho cl hcl x hx h0
 ·by_cases h2 : (saidOf M.st cl).req < x.req
  ·exact ask_new h hb hc hm ho cl hcl x hx (by omega) h2
  ·exact ask_same h hb hc hm ho cl hcl x hx (by omega) h2 (by omega)
end
end Mas
end Go.Proofs.YtolkgbafebehfaaGreat

/- Part 42 of what the proof needs. -/
import Derived.Test.YtolkgbafebehfaaGreatHP40
set_option linter.unusedSimpArgs false
set_option linter.unusedVariables false
set_option maxHeartbeats 32000000
set_option maxRecDepth 100000
namespace Go.Proofs.YtolkgbafebehfaaGreat
open Go.RowKit
set_option maxRecDepth 100000
namespace Mas
open Plan Vn Mst Wat IM Nte Msg
def nlegit (id : Int) : NoteR := nt 5 id ⟨0,0,0⟩ ⟨0,0,[]⟩
def beat0 (M : MR) (id : Int) (x : MsgR) : MR := { M with serial := fput M.serial id (some x.ser),cnt := M.cnt + 1 }
def heard0 (M : MR) (id : Int) (x : MsgR) : MR := { beat0 M id x with ns := M.ns.set id.toNat 0,last := max M.last x.last }
def marked0 (M : MR) (id : Int) (x : MsgR) : MR := { heard0 M id x with marks := fput M.marks id (some x.at'),cnt := M.cnt + 2 }
def beat1 (M : MR) (id : Int) (x : MsgR) : MR :=
 if (id,x.ser) ∈ M.st.ms then (if x.ep ≠ M.st.ep then heard0 M id x else if x.fl && !inB M.st.lg id then writeM (marked0 M id x) (nlegit id) else marked0 M id x)
 else if anyId M.st.ms id then { beat0 M id x with lost := fun y => decide (y = id) || M.lost y,cnt := M.cnt + 2 } else beat0 M id x
def beatM (M : MR) (id : Int) (x : MsgR) : MR := if x.ep < M.st.ep then whereM (beat1 M id x) id else beat1 M id x
section
variable {w w' : World} {X X0 : MX} {M M0 : MR} {c k : Nat}
theorem MOk.write (h : MOk M k) {x : NoteR} (hu : NU x) : MOk (writeM M x) k := by
 have h1 := h.st.write hu
 unfold writeM at *
 split
 ·rename_i he
  rw [if_pos he] at h1
  exact ⟨h1,h.p3,h.pin,h.wat,h.last,h.marks,h.serial,h.cnt⟩
 ·exact h
theorem MOk.send (h : MOk M k) (to : Int) (x : MsgR) : MOk (sendM M to x) k := by
 unfold sendM
 split
 ·exact ⟨h.st,h.p3,h.pin,h.wat,h.last,h.marks,h.serial,h.cnt⟩
 ·exact h
theorem writeM_out (M : MR) (x : NoteR) : (writeM M x).out = M.out := by unfold writeM;split <;> rfl
theorem send_out (M : MR) (to : Int) (x : MsgR) : (sendM M to x).out.length <= M.out.length + 1 := by
 unfold sendM
 split
 ·dsimp only;rw [List.length_append];exact Nat.le_refl _
 ·exact Nat.le_succ _
theorem nu_nt (kk n : Int) (p : PinR) (hp : 0 <= p.at' /\ p.at' <= maxTs) (h0 : 0 <= p.id) : NU (nt kk n p ⟨0,0,[]⟩) := by
 refine ⟨by unfold nt;dsimp only;unfold maxTs;decide,?_,?_⟩ <;> first | exact hp | (unfold nt;dsimp only;unfold maxTs;decide)
theorem WOk.heard {ns : List Int} {t : Int} (h : WOk ns t) (i : Nat) : WOk (ns.set i 0) t :=
 ⟨by rw [List.length_set];exact h.len,fun n hn => by
  rcases mem_set hn with y | y
  ·exact h.ns n y
  ·omega,h.t⟩
theorem Step.has {b : Nat} {t : TypeId} {cs : Array Value} (h : Step w X M w' X0 M0) (hh : Has w b t cs) (hn : ¬ foot X M b) : Has w' b t cs /\ ¬ foot X0 M0 b :=
 ⟨hh.kept h.k hn,fun hf => by
  rcases h.g b hf with y | y
  ·exact hn y
  ·have := hh.lt;omega⟩
theorem MOk.beat0 (h : MOk M k) (id : Int) (x : MsgR) (hx : I64 x.ser) : MOk (beat0 M id x) (k + 1) := by
 refine ⟨h.st,h.p3,h.pin,h.wat,h.last,h.marks,fun i v hv => ?_,by have := h.cnt;unfold Mas.beat0;dsimp only;omega⟩
 simp only [Mas.beat0,fput] at hv
 split at hv
 ·cases hv;exact hx
 ·exact h.serial i v hv
theorem MOk.beat1 {w : World} (h : MOk M k) (id : Int) (x : MsgR) (hx : I64 x.ser) (hok : XOk w x) (hid : 0 <= id /\ id < 4) : MOk (beat1 M id x) (k + 1) := by
 have hl : 0 <= max M.last x.last /\ max M.last x.last <= maxTs := by have := h.last;have := hok.t.2.1;omega
 have h0 := h.beat0 id x hx
 have hmk : MOk (marked0 M id x) (k + 1) := by
  refine ⟨h.st,h.p3,h.pin,WOk.heard h.wat _,hl,fun i v hv => ?_,h0.serial,by have := h.cnt;unfold marked0;dsimp only;omega⟩
  simp only [marked0,fput] at hv
  split at hv
  ·cases hv;exact hok.t.1
  ·exact h.marks i v hv
 unfold Mas.beat1
 split
 ·split
  ·exact ⟨h.st,h.p3,h.pin,WOk.heard h.wat _,hl,h.marks,h0.serial,h0.cnt⟩
  ·split
   ·exact hmk.write (nu_nt _ _ _ (by decide) (by decide))
   ·exact hmk
 ·split
  ·exact ⟨h.st,h.p3,h.pin,h.wat,h.last,h.marks,h0.serial,by have := h.cnt;dsimp only;omega⟩
  ·exact h0
theorem MOk.beatM {w : World} (h : MOk M k) (id : Int) (x : MsgR) (hx : I64 x.ser) (hok : XOk w x) (hid : 0 <= id /\ id < 4) : MOk (beatM M id x) (k + 1) := by
 unfold Mas.beatM
 split
 ·exact (h.beat1 id x hx hok hid).send _ _
 ·exact h.beat1 id x hx hok hid
theorem beat1_out (M : MR) (id : Int) (x : MsgR) : (beat1 M id x).out = M.out := by
 unfold beat1
 split
 ·split
  ·rfl
  ·split
   ·exact writeM_out _ _
   ·rfl
 ·split <;> rfl
theorem legit_off (F : Nat -> Prop) (id : Int) : NOff F (nlegit id) := ⟨fun h => absurd h (Nat.lt_irrefl _),fun h => absurd h (Nat.lt_irrefl _),fun h => absurd h (Nat.lt_irrefl _)⟩
theorem u64_wf {v : Int} (h : 0 <= v /\ v <= maxTs) : (Lit.int .u64 v).wf = true := by
 unfold Lit.wf
 unfold maxTs at h
 have hb : (2 : Int) ^ IntKind.u64.bits = 18446744073709551616 := by decide
 simp [IntKind.signed,IntKind.min,IntKind.max,hb]
 omega
structure Stg (w : World) (X : MX) (M : MR) (c : Nat) (b1 : Nat) (t1 : TypeId) (k1 : Array Value) (b2 : Nat) (t2 : TypeId) (k2 : Array Value) (W : World) (X1 : MX) (M1 : MR) : Prop where
 s : Step w X M W X1 M1
 lb : LgB X1 M1.lg c
 h1 : Has W b1 t1 k1
 h2 : Has W b2 t2 k2
 o1 : ¬ foot X1 M1 b1
 o2 : ¬ foot X1 M1 b2
section
variable {W W' : World} {X1 X2 : MX} {M1 M2 : MR} {b1 b2 : Nat} {t1 t2 : TypeId} {k1 k2 : Array Value}
theorem Stg.quiet (h : Stg w X M c b1 t1 k1 b2 t2 k2 W X1 M1) (hk : Kept NoF W W') : Stg w X M c b1 t1 k1 b2 t2 k2 W' X1 M1 := ⟨h.s.quiet hk,h.lb,h.h1.kept hk (fun z => z),h.h2.kept hk (fun z => z),h.o1,h.o2⟩
theorem Stg.step (h : Stg w X M c b1 t1 k1 b2 t2 k2 W X1 M1) (hs : Step W X1 M1 W' X2 M2) {c2 : Nat} (hl : LgB X2 M2.lg c2) : Stg w X M c2 b1 t1 k1 b2 t2 k2 W' X2 M2 := by
 have a1 := hs.has h.h1 h.o1
 have a2 := hs.has h.h2 h.o2
 exact ⟨h.s.trans hs,hl,a1.1,a2.1,a1.2,a2.2⟩
theorem Stg.mono (h : Stg w X M c b1 t1 k1 b2 t2 k2 W X1 M1) {c2 : Nat} (hc : c <= c2) : Stg w X M c2 b1 t1 k1 b2 t2 k2 W X1 M1 := ⟨h.s,h.lb.mono hc,h.h1,h.h2,h.o1,h.o2⟩
end
theorem beat_any (h : MAt w X M) (hb : LgB X M.lg c) (hc : c <= 4000) (hm : MOk M k) (hk : k <= 1000) (ho : M.out.length <= 100) (i : Nat) (h4 : i < 4) (x : MsgR) (hx : XOk w x) (hxs : I64 x.ser) :
  Calls Tryz.prog 58 #[.pointer (some ⟨X.mb,0,none⟩),.int .i64 i,xagg x] w (MPost w X M c (.tuple #[]) (beatM M i x) 1) := by
 have hi := i64_small (i := i) (by omega) (by omega)
 obtain ⟨W0,hW0⟩ : ∃ W0,w.alloc (.cells (xcell x).toArray 46) = W0 := ⟨_,rfl⟩
 have hk0 : Kept NoF w W0 := by rw [<- hW0];(repeat' (first | (with_reducible first | exact kR0 | apply kP0 | apply kN0 | apply kD0 | apply kA0) | (right;simp;done)))
 have hn0 : Has W0 w.heap.size 46 (xcell x).toArray := by rw [<- hW0];exact Has.new _ _ _
 have hsd : Step w X M W0.drew X M := Step.refl h hk0.drew
 have hcs : IMap .i64 3 W0.drew X.se M.cnt M.serial := hsd.at'.c 6
 obtain ⟨W1,hr1,hs1,hk1⟩ := IMap.store hcs Tryz.underlying61 Tryz.underlying3 (by have := hm.cnt;unfold maxLen;omega) hi hxs
 have st1 : Step w X M W1 X (beat0 M i x) := hsd.trans (MAt.setSerial hsd.at' hs1 (Nat.le_succ _) hk1)
 have hoff : ¬ foot X M w.heap.size := fun hf => absurd (h.lt hf) (Nat.lt_irrefl _)
 have hn1 : Has W1 w.heap.size 46 (xcell x).toArray := (Has.drew hn0).kept hk1 (fun e => hoff ⟨6,e⟩)
 have p0 : W0.cell? ⟨X.mb,6,none⟩ = some (.map (some X.se)) := (h.quiet hk0).cell (i := 6) rfl
 have p1 : W0.cell? ⟨w.heap.size,3,none⟩ = some (.int .i64 x.ser) := hn0.cell 3
 have q2 : W1.cell? ⟨X.mb,2,none⟩ = some (.pointer (some ⟨X.sb,0,none⟩)) := st1.at'.cell (i := 2) rfl
 have hcf := conf_at (st1.at'.c 2) hm.st.inv.ok
 obtain ⟨ep,hep⟩ : ∃ ep,M.st.ep = ep := ⟨_,rfl⟩
 obtain ⟨fl,hfl⟩ : ∃ fl,M.st.fl = fl := ⟨_,rfl⟩
 have hcf2 : Calls Tryz.prog 48 #[.pointer (some ⟨X.sb,0,none⟩)] W1 (OwnPost W1 ep fl M.st.ms) := by rw [<- hep,<- hfl];exact hcf
 have hlb1 : LgB X (beat0 M i x).lg c := hb
 have hfoot1 : ∀ q,foot X (beat0 M i x) q -> foot X M q := fun q hq => hq
 have hw1 : w.heap.size < W1.heap.size := hn1.lt
 have HM1 : Hid (MOk (beat1 M i x) (k + 1)) := hZ0 (hm.beat1 i x hxs hx ⟨by omega,by omega⟩)
 have HB1 : Hid ((beat1 M i x).out.length <= 100) := hZ0 (by rw [beat1_out];exact ho)
 have hend : ∀ W X1 b2 t2 k2,Stg w X M (c + 1) w.heap.size 46 (xcell x).toArray b2 t2 k2 W X1 (beat1 M i x) -> (x.ep < ep /\ Calls Tryz.prog 60 #[.pointer (some ⟨X.mb,0,none⟩),.int .i64 i] W fun e w' => e = .returned (.tuple #[]) /\ MPost w X M c (.tuple #[]) (beatM M i x) 1 (.returned (.tuple #[])) w') \/ (¬ x.ep < ep /\ MPost w X M c (.tuple #[]) (beatM M i x) 1 (.returned (.tuple #[])) W) := by
  intro W X1 b2 t2 k2 hs
  have hB : beatM M i x = if x.ep < ep then whereM (beat1 M i x) i else beat1 M i x := by rw [<- hep];rfl
  rw [hB]
  by_cases hlt : x.ep < ep
  ·rw [if_pos hlt]
   refine .inl ⟨hlt,?_⟩
   have hw := where_any hs.s.at' hs.lb (by have := HB1.out;omega) HM1.out.st.inv.ok HM1.out.st.su i
   rw [hs.s.mb] at hw
   refine hw.mono ?_
   rintro e w' ⟨rfl,X',h1,h2⟩
   exact ⟨rfl,rfl,X',hs.s.trans h1,h2⟩
  ·rw [if_neg hlt]
   exact .inr ⟨hlt,rfl,X1,hs.s,hs.lb⟩
 have HEND := hZ0 hend
 clear hend
 have HLG := hZ0 (fun W (h : MAt W X (marked0 M i x)) => legit_at (h.c 2) hm.st.inv.ok)
 have HLN := hZ0 hm.st.inv.ok
 have HCF := hZ0 hcf2
 have HST := hZ0 st1;have HLB := hZ0 hlb1;have HN1 := hZ0 hn1;have HB := hZ0 hb;have HC := hZ0 hc;have HM := hZ0 hm;have HK := hZ0 hk;have HO := hZ0 ho;have HX := hZ0 hx;have HXS := hZ0 hxs;have HOFF := hZ0 hoff;have HI := hZ0 hi;have HEP := hZ0 hep;have HFT := hZ0 hfoot1;have HW1 := hZ0 hw1
 have HLT := hZ0 (fun q (hq : foot X M q) => h.lt hq)
 clear hn0 hsd hcs hs1 hk1 st1 hn1 h hb hc hm hk ho hx hxs hoff hk0 hi hcf hcf2 hep hfl hlb1 hfoot1 hw1
 go_enter Tryz.func58,Tryz.ntmps58
 go_wp2_with fail
 refine wp_region_still_tail 7 (by kernel_rfl) (by kernel_rfl) ?_
 simp only [List.take_succ_cons,List.take_zero,List.drop_succ_cons,List.drop_zero]
 change wpStill _ _ (World.drew W0) _ _ _
 repeat still_step
 refine wpStill_nil ?_
 change wpList _ _ _ _ _ (World.drew W0)
 go_wp2_with fail
 clear p0 p1 hW0 hr1
 refine HCF.out.mono ?_
 rintro e w2 ⟨A,d,rfl,hr,hk2⟩
 clear q2
 obtain ⟨W3,hW3⟩ : ∃ W3,w2.alloc (.cells #[.int .i64 ep,.slice A M.st.ms.length d,.int .u64 fl] 25) = W3 := ⟨_,rfl⟩
 have hk3 : Kept NoF W1 W3 := by rw [<- hW3];(repeat' (first | (with_reducible first | exact kR0 | apply kP0 | apply kN0 | apply kD0 | apply kA0) | (exact hk2) | (right;simp;done)))
 have hc3 : Has W3 w2.heap.size 25 #[.int .i64 ep,.slice A M.st.ms.length d,.int .u64 fl] := by rw [<- hW3];exact Has.new _ _ _
 have hr3 := NewSl.kept hr (w' := W3) (by rw [<- hW3];(repeat' (first | (with_reducible first | exact kR0 | apply kP0 | apply kN0 | apply kD0 | apply kA0) | (right;simp;done))))
 have s3 : Stg w X M c w.heap.size 46 (xcell x).toArray w2.heap.size 25 #[.int .i64 ep,.slice A M.st.ms.length d,.int .u64 fl] W3 X (beat0 M i x) :=
  ⟨HST.out.quiet hk3,HLB.out,HN1.out.kept hk3 (fun z => z),hc3,HOFF.out,fun hf => by have := HLT.out _ (HFT.out _ hf);have := HW1.out;have := hk2.size;omega⟩
 have b3 : W3.cell? ⟨w.heap.size,3,none⟩ = some (.int .i64 x.ser) := s3.h1.cell 3
 have hpl := Plan.pplace_any W3 ep fl A d M.st.ms ((i : Int),x.ser) (Src.of_own hr3.1) (by have := HLN.out.m;omega)
 obtain ⟨cb,hcb⟩ : ∃ cb,w2.heap.size = cb := ⟨_,rfl⟩
 rw [hcb] at s3
 have d0 : W3.cell? ⟨cb,0,none⟩ = some (.int .i64 ep) := s3.h2.cell 0
 have d1 : W3.cell? ⟨cb,1,none⟩ = some (.slice A M.st.ms.length d) := s3.h2.cell 1
 have d2 : W3.cell? ⟨cb,2,none⟩ = some (.int .u64 fl) := s3.h2.cell 2
 have HPL := hZ0 hpl;have HS3 := hZ0 s3;clear hpl s3 hr3 hc3 hk3 hr hk2
 go_wp2_with fail
 clear b3 hW3 d0 d1 d2
 refine HPL.out.mono ?_
 rintro e W4 ⟨⟨n,rfl,hn1,hn2⟩,hk4⟩
 have s4 := HS3.out.quiet hk4
 have HS4 := hZ0 s4;clear s4 hk4 HS3 hcb HPL
 by_cases hin : ((i : Int),x.ser) ∈ M.st.ms
 ·have hn0 : 0 <= n := hn1.2 hin
  have hB1 : beat1 M i x = if x.ep ≠ ep then heard0 M i x else if x.fl && !inB M.st.lg i then writeM (marked0 M i x) (nlegit i) else marked0 M i x := by rw [<- HEP.out];unfold beat1;rw [if_pos hin]
  have HB1' := hZ0 hB1
  have q4 : W4.cell? ⟨X.mb,4,none⟩ = some (.pointer (some ⟨X.wb,0,none⟩)) := HS4.out.s.at'.cell (i := 4) rfl
  have hhe := heard_any (HS4.out.s.at'.c 4) HM.out.wat i h4
  have HHE := hZ0 hhe
  clear hn1 hn2 hin hB1 hhe
  go_wp2_with fail
  clear q4
  refine HHE.out.mono ?_
  rintro e W5 ⟨rfl,hw5,hk5⟩
  have s5 := HS4.out.step (MAt.setWat HS4.out.s.at' hw5 hk5) HS4.out.lb
  obtain ⟨mx,hmx⟩ : ∃ mx,max M.last x.last = mx := ⟨_,rfl⟩
  have s6d := s5.quiet (Kept.refl NoF W5).drew
  have s6 := s6d.step (Step.setLast (Step.refl s6d.s.at' (Kept.refl _ _)) mx) s6d.lb
  have hH0 : ({ beat0 M i x with ns := M.ns.set i 0,last := mx } : MR) = heard0 M i x := by rw [<- hmx];rfl
  have s6' : Stg w X M c w.heap.size 46 (xcell x).toArray cb 25 #[.int .i64 ep,.slice A M.st.ms.length d,.int .u64 fl] (World.setCell (World.drew W5) ⟨X.mb,7,none⟩ (.int .u64 mx)) X (heard0 M i x) := by rw [<- hH0];exact s6
  have q5 : W5.cell? ⟨X.mb,7,none⟩ = some (.int .u64 M.last) := s5.s.at'.cell (i := 7) rfl
  have f5 := (Has.frozen (s5.s.at'.c 0) 7)
  have g5 : W5.cell? ⟨w.heap.size,6,none⟩ = some (.int .u64 x.last) := s5.h1.cell 6
  have hmf := fun W ts t => max_u M.last x.last mx hmx W ts t
  obtain ⟨W6,hW6⟩ : ∃ W6,(World.setCell (World.drew W5) ⟨X.mb,7,none⟩ (.int .u64 mx)) = W6 := ⟨_,rfl⟩
  rw [hW6] at s6'
  have HS6 := hZ0 s6'
  clear s5 s6d s6 s6' hH0 hw5 hk5 hmx HS4
  go_wp2_with fail
  refine wp_region_still_tail 10 (by kernel_rfl) (by kernel_rfl) ?_
  simp only [List.take_succ_cons,List.take_zero,List.drop_succ_cons,List.drop_zero]
  change wpStill _ _ (World.drew W5) _ _ _
  repeat still_step
  refine wpStill_nil ?_
  change wpList _ _ _ _ _ (World.drew W5)
  have t1 := HS6.out.h1.cell 1
  have t6 := HS6.out.h2.cell 0
  simp only [xcell,List.getElem?_toArray,List.getElem?_cons_zero,List.getElem?_cons_succ] at t1 t6
  by_cases hee : x.ep ≠ ep
  ·rw [if_pos hee] at HB1'
   rw [<- HB1'.out] at HS6
   have HS6 := hZ0 (HS6.out.mono (Nat.le_succ c))
   clear t1 t6
   have t1 := HS6.out.h1.cell 1
   have t6 := HS6.out.h2.cell 0
   simp only [xcell,List.getElem?_toArray,List.getElem?_cons_zero,List.getElem?_cons_succ] at t1 t6
   rcases HEND.out _ _ _ _ _ HS6.out with ⟨hlt,hcall⟩ | ⟨hlt,hfin⟩
   ·have HCALL := hZ0 hcall;clear hcall
    go_wp2_with fail
    clear t1 t6
    refine HCALL.out.mono ?_
    rintro e w9 ⟨rfl,hq⟩
    have HQ9 := hZ0 hq;clear hq
    go_wp2
    go_end0
    exact HQ9.out
   ·have HFIN := hZ0 hfin;clear hfin
    go_wp2_with fail
    clear t1 t6
    go_end0
    exact HFIN.out
  ·obtain hee : x.ep = ep := Classical.byContradiction hee
   rw [if_neg (fun h => h hee)] at HB1'
   have hux : (Lit.int .u64 x.at').wf = true := u64_wf HX.out.t.1
   have s6d := HS6.out.quiet (Kept.refl NoF W6).drew
   have hcm : IMap .u64 23 W6.drew X.mm (M.cnt + 1) M.marks := s6d.s.at'.c 5
   obtain ⟨W7,hr7,hs7,hk7⟩ := IMap.store hcm Tryz.underlying60 Tryz.underlying23 (by have := HM.out.cnt;have := HK.out;unfold maxLen;omega) HI.out hux
   have s7 : Stg w X M c w.heap.size 46 (xcell x).toArray cb 25 #[.int .i64 ep,.slice A M.st.ms.length d,.int .u64 fl] W7 X (marked0 M i x) := s6d.step (MAt.setMarks s6d.s.at' hs7 (Nat.le_succ _) hk7) s6d.lb
   have q6 : W6.cell? ⟨X.mb,5,none⟩ = some (.map (some X.mm)) := HS6.out.s.at'.cell (i := 5) rfl
   have t5 := HS6.out.h1.cell 5
   simp only [xcell,List.getElem?_toArray,List.getElem?_cons_zero,List.getElem?_cons_succ] at t5
   have u4 : W7.cell? ⟨w.heap.size,4,none⟩ = some (.bool x.fl) := s7.h1.cell 4
   have HS7 := hZ0 s7
   clear s6d hcm hs7 hk7 hux s7 HS6
   obtain ⟨b,hbf⟩ : ∃ b,x.fl = b := ⟨_,rfl⟩
   have u4b : W7.cell? ⟨w.heap.size,4,none⟩ = some (.bool b) := by rw [<- hbf];exact u4
   clear u4
   have hle := HLG.out W7 HS7.out.s.at'
   have HLE := hZ0 hle
   have q7 : W7.cell? ⟨X.mb,2,none⟩ = some (.pointer (some ⟨X.sb,0,none⟩)) := HS7.out.s.at'.cell (i := 2) rfl
   clear hle
   have hwr : ∀ W,Kept NoF W7 W -> Calls Tryz.prog 44 #[.pointer (some ⟨X.mb,0,none⟩),.agg (ncell (nlegit i)).toArray] W fun e w' => (∃ z,e = .returned (.int .i64 z)) /\ ∃ X',Step W X (marked0 M i x) w' X' (writeM (marked0 M i x) (nlegit i)) /\ LgB X' (writeM (marked0 M i x) (nlegit i)).lg (c + 1) := fun W hW => by
    refine (write_any (HS7.out.s.at'.quiet hW) HS7.out.lb HC.out HLN.out (nlegit i) (nt_ok _ _ _ _ _ _) (nu_nt _ _ _ (by decide) (by decide)) (legit_off _ _)).mono ?_
    rintro e w' ⟨rfl,h⟩
    exact ⟨⟨_,rfl⟩,h⟩
   simp only [nlegit,nt,ncell,List.length_nil,ans0] at hwr
   have HWR := hZ0 hwr;clear hwr
   cases b
   ·go_wp2_with fail
    refine wp_region_still_tail 7 (by kernel_rfl) (by kernel_rfl) ?_
    simp only [List.take_succ_cons,List.take_zero,List.drop_succ_cons,List.drop_zero]
    change wpStill _ _ (World.drew W6) _ _ _
    repeat still_step
    refine wpStill_nil ?_
    change wpList _ _ _ _ _ (World.drew W6)
    rw [hbf,Bool.false_and,if_neg (by decide)] at HB1'
    rw [<- HB1'.out] at HS7
    have HS7 := hZ0 (HS7.out.mono (Nat.le_succ c))
    clear HWR HLE
    have t1 := HS7.out.h1.cell 1
    have t6 := HS7.out.h2.cell 0
    simp only [xcell,List.getElem?_toArray,List.getElem?_cons_zero,List.getElem?_cons_succ] at t1 t6
    rcases HEND.out _ _ _ _ _ HS7.out with ⟨hlt,hcall⟩ | ⟨hlt,hfin⟩
    ·exact absurd hlt (by omega)
    ·have HFIN := hZ0 hfin;clear hfin hlt
     rw [hee] at t1
     have hlt : ¬ ep < ep := by omega
     go_wp2_with fail
     clear t1 t6
     go_end0
     exact HFIN.out
   ·go_wp2_with fail
    refine wp_region_still_tail 7 (by kernel_rfl) (by kernel_rfl) ?_
    simp only [List.take_succ_cons,List.take_zero,List.drop_succ_cons,List.drop_zero]
    change wpStill _ _ (World.drew W6) _ _ _
    repeat still_step
    refine wpStill_nil ?_
    change wpList _ _ _ _ _ (World.drew W6)
    rw [hbf,Bool.true_and] at HB1'
    go_wp2_with fail
    clear q7 u4b hr7 q6 t5
    refine HLE.out.mono ?_
    rintro e W8 ⟨B,db,rfl,hn8,hk8⟩
    have hco := Mst.containsI_any W8 B db M.st.lg i (Src.of_own hn8.1) (by have := HLN.out.l;omega)
    obtain ⟨bb,hbb⟩ : ∃ bb,inB M.st.lg i = bb := ⟨_,rfl⟩
    rw [hbb] at hco HB1'
    have HCO := hZ0 hco;have HK8 := hZ0 hk8;clear hco hk8 hn8 hbb
    go_wp2_with fail
    refine HCO.out.mono ?_
    rintro e W9 ⟨rfl,hk9⟩
    have HK9 := hZ0 (HK8.out.then hk9);clear hk9 HK8
    cases bb
    ·rw [if_pos (by decide)] at HB1'
     have hb10 := HB1'.out.symm
     simp only [nlegit,nt,ans0] at hb10
     have HB1'0 := hZ0 hb10;clear hb10
     have hwr := HWR.out _ HK9.out
     have HWR2 := hZ0 hwr;clear hwr
     go_wp2_with fail
     refine HWR2.out.mono ?_
     rintro e W10 ⟨⟨z,rfl⟩,X',hst,hlb⟩
     have s10 := (HS7.out.quiet HK9.out).step hst hlb
     rw [HB1'0.out] at s10
     have HS10 := hZ0 s10;clear s10 hst hlb
     have t1 := HS10.out.h1.cell 1
     have t6 := HS10.out.h2.cell 0
     simp only [xcell,List.getElem?_toArray,List.getElem?_cons_zero,List.getElem?_cons_succ] at t1 t6
     rcases HEND.out _ _ _ _ _ HS10.out with ⟨hlt,hcall⟩ | ⟨hlt,hfin⟩
     ·exact absurd hlt (by omega)
     ·have HFIN := hZ0 hfin;clear hfin hlt
      rw [hee] at t1
      have hlt : ¬ ep < ep := by omega
      go_wp2_with fail
      clear t1 t6
      go_end0
      exact HFIN.out
    ·rw [if_neg (by decide)] at HB1'
     have s9 := (HS7.out.quiet HK9.out).mono (Nat.le_succ c)
     rw [<- HB1'.out] at s9
     have HS9 := hZ0 s9;clear s9
     have t1 := HS9.out.h1.cell 1
     have t6 := HS9.out.h2.cell 0
     simp only [xcell,List.getElem?_toArray,List.getElem?_cons_zero,List.getElem?_cons_succ] at t1 t6
     rcases HEND.out _ _ _ _ _ HS9.out with ⟨hlt,hcall⟩ | ⟨hlt,hfin⟩
     ·exact absurd hlt (by omega)
     ·have HFIN := hZ0 hfin;clear hfin hlt
      rw [hee] at t1
      have hlt : ¬ ep < ep := by omega
      go_wp2_with fail
      clear t1 t6
      go_end0
      exact HFIN.out
 ·have hn0 : n = -1 := by
   rcases hn2 with h | h
   ·exact h
   ·exact absurd (hn1.1 h) hin
  subst hn0
  have hmem := member_any HS4.out.s.at' HLN.out i
  have hB1 : beat1 M i x = if anyId M.st.ms i then { beat0 M i x with lost := fun y => decide (y = (i : Int)) || M.lost y,cnt := M.cnt + 2 } else beat0 M i x := by unfold beat1;rw [if_neg hin]
  have hsto := fun W (hW : Kept NoF W4 W) => SetIs.store (w := W) (b := X.lo) (n := M.cnt + 1) (s := M.lost) ((HS4.out.s.at'.quiet hW).c 9) (by have := HM.out.cnt;have := HK.out;unfold maxLen;omega) HI.out
  obtain ⟨bb,hbb⟩ : ∃ bb,anyId M.st.ms i = bb := ⟨_,rfl⟩
  have hmem2 : Calls Tryz.prog 68 #[.pointer (some ⟨X.mb,0,none⟩),.int .i64 i] W4 fun e w' => e = .returned (.bool bb) /\ Kept NoF W4 w' := by rw [<- hbb];exact hmem
  rw [hbb] at hB1
  have HB1' := hZ0 hB1;have HSTO := hZ0 hsto;have HMEM := hZ0 hmem2
  clear hn1 hn2 hin hB1 hsto hmem hmem2 hbb
  go_wp2_with fail
  refine HMEM.out.mono ?_
  rintro e W5 ⟨rfl,hk5⟩
  have s5 := HS4.out.quiet hk5
  have q5 : W5.cell? ⟨X.mb,10,none⟩ = some (.map (some X.lo)) := s5.s.at'.cell (i := 10) rfl
  obtain ⟨W6,hr6,hs6,hk6⟩ := HSTO.out W5 hk5
  cases bb
  ·rw [if_neg (by decide)] at HB1'
   rw [<- HB1'.out] at s5
   have HS5 := hZ0 (s5.mono (Nat.le_succ c));clear s5 hr6 hs6 hk6 hk5 q5
   have t1 := HS5.out.h1.cell 1
   have t6 := HS5.out.h2.cell 0
   simp only [xcell,List.getElem?_toArray,List.getElem?_cons_zero,List.getElem?_cons_succ] at t1 t6
   rcases HEND.out _ _ _ _ _ HS5.out with ⟨hlt,hcall⟩ | ⟨hlt,hfin⟩
   ·have HCALL := hZ0 hcall;clear hcall
    go_wp2_with fail
    clear t1 t6
    refine HCALL.out.mono ?_
    rintro e w9 ⟨rfl,hq⟩
    have HQ9 := hZ0 hq;clear hq
    go_wp2
    go_end0
    exact HQ9.out
   ·have HFIN := hZ0 hfin;clear hfin
    go_wp2_with fail
    clear t1 t6
    go_end0
    exact HFIN.out
  ·rw [if_pos rfl] at HB1'
   have s6 := s5.step (MAt.setLost s5.s.at' hs6 (Nat.le_succ _) hk6) s5.lb
   have hB2 : beat1 M i x = { beat0 M i x with lost := fun y => decide (y = (i : Int)) || M.lost y,cnt := M.cnt + 1 + 1 } := HB1'.out
   have hs66 : Stg w X M c w.heap.size 46 (xcell x).toArray cb 25 #[.int .i64 ep,.slice A M.st.ms.length d,.int .u64 fl] W6 X (beat1 M i x) := by rw [hB2];exact s6
   have HS6 := hZ0 (hs66.mono (Nat.le_succ c));clear s5 s6 hs6 hk6 hk5 hB2 hs66
   have t1 := HS6.out.h1.cell 1
   have t6 := HS6.out.h2.cell 0
   simp only [xcell,List.getElem?_toArray,List.getElem?_cons_zero,List.getElem?_cons_succ] at t1 t6
   rcases HEND.out _ _ _ _ _ HS6.out with ⟨hlt,hcall⟩ | ⟨hlt,hfin⟩
   ·have HCALL := hZ0 hcall;clear hcall
    go_wp2_with fail
    clear t1 t6
    refine HCALL.out.mono ?_
    rintro e w9 ⟨rfl,hq⟩
    have HQ9 := hZ0 hq;clear hq
    go_wp2
    go_end0
    exact HQ9.out
   ·have HFIN := hZ0 hfin;clear hfin
    go_wp2_with fail
    clear t1 t6
    go_end0
    exact HFIN.out
end
end Mas
end Go.Proofs.YtolkgbafebehfaaGreat

/- Part 49 of what the proof needs. -/
import Derived.Test.YtgffjliedjhbaaaGreatZS47
set_option linter.unusedSimpArgs false
set_option linter.unusedVariables false
set_option maxHeartbeats 32000000
set_option maxRecDepth 100000
namespace Go.Proofs.YtgffjliedjhbaaaGreat
open Go.RowKit
set_option maxRecDepth 100000
namespace Mas
open Plan Vn Mst Wat IM Nte Msg
def mk0 (L : LgM) : MR := ⟨L,st0,[],[0,0,0,0],0,fun _ => none,fun _ => none,0,fun _ => false,fun _ => false,fun _ => false,[],0⟩
section
variable {w w' : World} {X X0 : MX} {M M0 : MR} {c : Nat}
def MadePost (w : World) (X0 : MX) (L : LgM) (e : Ending) (w' : World) : Prop :=
 ∃ X,e = .returned (.pointer (some ⟨X.mb,0,none⟩)) /\ MAt w' X (mk0 L) /\ (∀ k,foot X (mk0 L) k -> Pt.PF X0.gp X0.gw X0.F X0.A L.l.length X0.c k \/ w.heap.size <= k) /\ Kept NoF w w' /\ X.g = X0.g /\ X.n = X0.n /\ X.ps = X0.ps /\ X.ser = X0.ser /\ X.boot = X0.boot /\ X.gp = X0.gp
theorem made_any (X0 : MX) (L : LgM) (hp : PtM w X0 L) : Calls Tryz.prog 40 #[.pointer (some ⟨X0.g,0,none⟩),.pointer (some ⟨X0.gp,0,none⟩)] w (MadePost w X0 L) := by
 have hlt : ∀ k,Pt.PF X0.gp X0.gw X0.F X0.A L.l.length X0.c k -> k < w.heap.size := fun k hk => by
  rcases hk with hk | hk | hk | hk
  ·exact hp.d.lt k hk
  ·rw [hk];exact Has.lt hp.p
  ·rw [hk];exact Has.lt hp.wl
  ·exact own_lt hp.row.1 hk
 have HP := hZ0 hp;have HLT := hZ0 hlt;clear hp hlt
 have hmk := @run_makeMap Tryz.prog
 go_enter Tryz.func40,Tryz.ntmps40
 go_wp2_with fail
 refine (new_at w).mono ?_
 rintro e w1 ⟨rfl,hst,hk1⟩
 have HST := hZ0 hst;have HK1 := hZ0 hk1;clear hst hk1
 go_wp2_with fail
 refine (wnew_any w1).mono ?_
 rintro e w2 ⟨rfl,hwt,hk2⟩
 have HWT := hZ0 hwt;have HK2 := hZ0 hk2;clear hwt hk2
 go_wp2
 go_ret
 have l1 : w.heap.size < w1.heap.size := HST.out.lt _ rfl
 have l2 : w1.heap.size < w2.heap.size := Has.lt HWT.out
 have hk2 : Kept NoF w w2 := HK1.out.then HK2.out
 refine ⟨⟨w2.heap.size + 5,X0.gp,X0.gw,X0.g,w.heap.size,w1.heap.size,w2.heap.size,w2.heap.size + 1,w2.heap.size + 2,w2.heap.size + 3,w2.heap.size + 4,X0.F,fun k => k = w.heap.size,none,0,none,0,X0.A,X0.c,X0.n,X0.m,X0.ps,X0.ser,X0.boot⟩,?_,⟨fun i => ?_,fun i j k hi hj => ?_⟩,fun k hk => ?_,by (repeat' (first | (with_reducible first | exact kR0 | apply kP0 | apply kN0 | apply kD0 | apply kA0) | (exact hk2) | (right;simp;done))),rfl,rfl,rfl,rfl,rfl,rfl⟩
 ·first | rfl | (simp;done)
 ·have hmp : ∀ (o : Nat),o < 5 -> True := fun _ _ => trivial
  rcases i with _ | _ | _ | _ | _ | _ | _ | _ | _ | _ | _ | i
  ·exact Has.new_at _ _ _ (by simp)
  ·exact PtM.keptG (G := NoF) HP.out (by (repeat' (first | (with_reducible first | exact kR0 | apply kP0 | apply kN0 | apply kD0 | apply kA0) | (exact hk2) | (right;simp;done)))) (fun _ _ z => z)
  ·exact StAt.still HST.out (HK2.out.then (by (repeat' (first | (with_reducible first | exact kR0 | apply kP0 | apply kN0 | apply kD0 | apply kA0) | (right;simp;done)))))
  ·exact ⟨rfl,.inl ⟨rfl,rfl⟩⟩
  ·exact Has.kept (F := NoF) HWT.out (by (repeat' (first | (with_reducible first | exact kR0 | apply kP0 | apply kN0 | apply kD0 | apply kA0) | (right;simp;done)))) (fun z => z)
  ·exact IMap.kept (F := NoF) (IMap.made .u64 30 w2) (by (repeat' (first | (with_reducible first | exact kR0 | apply kP0 | apply kN0 | apply kD0 | apply kA0) | (right;simp;done)))) (fun z => z)
  ·exact IMap.kept (F := NoF) (by have h := IMap.made .i64 3 (w2.alloc (.map #[] 0));simp only [size_alloc] at h;exact h) (by (repeat' (first | (with_reducible first | exact kR0 | apply kP0 | apply kN0 | apply kD0 | apply kA0) | (right;simp;done)))) (fun z => z)
  ·exact SetIs.kept (F := NoF) (by have h := SetIs.made ((w2.alloc (.map #[] 0)).alloc (.map #[] 0));simp only [size_alloc] at h;exact h) (by (repeat' (first | (with_reducible first | exact kR0 | apply kP0 | apply kN0 | apply kD0 | apply kA0) | (right;simp;done)))) (fun z => z)
  ·exact SetIs.kept (F := NoF) (by have h := SetIs.made (((w2.alloc (.map #[] 0)).alloc (.map #[] 0)).alloc (.map #[] 0));simp only [size_alloc] at h;exact h) (by (repeat' (first | (with_reducible first | exact kR0 | apply kP0 | apply kN0 | apply kD0 | apply kA0) | (right;simp;done)))) (fun z => z)
  ·exact SetIs.kept (F := NoF) (by have h := SetIs.made ((((w2.alloc (.map #[] 0)).alloc (.map #[] 0)).alloc (.map #[] 0)).alloc (.map #[] 0));simp only [size_alloc] at h;exact h) (by (repeat' (first | (with_reducible first | exact kR0 | apply kP0 | apply kN0 | apply kD0 | apply kA0) | (right;simp;done)))) (fun z => z)
  ·exact ⟨rfl,.inl ⟨rfl,rfl⟩⟩
  ·trivial
 ·have h1 : ∀ k,Pt.PF X0.gp X0.gw X0.F X0.A L.l.length X0.c k -> k < w.heap.size := HLT.out
  rcases i with _ | _ | _ | _ | _ | _ | _ | _ | _ | _ | _ | i <;> rcases j with _ | _ | _ | _ | _ | _ | _ | _ | _ | _ | _ | j <;> first
   | rfl
   | exact hi.elim
   | exact hj.elim
   | (simp [parts,mk0,Value.ownBlock] at hi;done)
   | (simp [parts,mk0,Value.ownBlock] at hj;done)
   | (have h2 := h1 k hj;simp only [parts] at hi;omega)
   | (have h2 := h1 k hi;simp only [parts] at hj;omega)
   | (simp only [parts] at hi hj;omega)
 ·obtain ⟨i,hi⟩ := hk
  rcases i with _ | _ | _ | _ | _ | _ | _ | _ | _ | _ | _ | i <;> first
   | exact .inl hi
   | exact hi.elim
   | (simp [parts,mk0,Value.ownBlock] at hi;done)
   | (simp only [parts] at hi;right;omega)
end
end Mas
namespace Mas
open Plan Vn Mst Wat IM Nte Msg Lea
theorem mem_set {α : Type} {l : List α} {i : Nat} {a b : α} (h : b ∈ l.set i a) : b ∈ l \/ b = a := by
 rcases List.mem_or_eq_of_mem_set h with h | h
 ·exact .inl h
 ·exact .inr h
theorem renewed_mem {l : List PinR} {id : Int} {p : PinR} (h : p ∈ renewed l id) : p ∈ l \/ ∃ q ∈ l,p = ⟨id,q.at',8⟩ := by
 unfold renewed at h
 split at h
 ·rename_i q hq
  rcases mem_set h with h | h
  ·exact .inl h
  ·exact .inr ⟨q,List.mem_of_getElem? hq,h⟩
 ·exact .inl h
theorem SU.apply {s : StR} {x : NoteR} (h : SU s) (hu : NU x) : SU (applyS s x) := by
 unfold applyS
 split
 ·exact h
 split
 ·exact ⟨h.hz,hu.2.2.1,h.pin⟩
 split
 ·exact ⟨h.hz,h.fl,h.pin⟩
 split
 ·exact ⟨hu.1,h.fl,h.pin⟩
 split
 ·unfold pinS
  split
  ·refine ⟨h.hz,h.fl,fun p hp => ?_⟩
   rcases renewed_mem hp with hp | ⟨q,hq,rfl⟩
   ·exact h.pin p hp
   ·exact h.pin q hq
  ·refine ⟨h.hz,h.fl,fun p hp => ?_⟩
   rcases List.mem_append.1 hp with hp | hp
   ·exact h.pin p hp
   ·rw [List.mem_singleton.1 hp];exact hu.2.1
 split
 ·exact ⟨h.hz,h.fl,fun p hp => h.pin p ((freed_sub s.pins x.n).subset hp)⟩
 ·unfold withTold
  split
  ·exact ⟨h.hz,h.fl,h.pin⟩
  split
  ·exact ⟨h.hz,h.fl,h.pin⟩
  ·exact ⟨h.hz,h.fl,h.pin⟩
structure StOk (s : StR) : Prop where
 inv : Mst.Inv s
 su : SU s
theorem st0_ok : StOk st0 := ⟨inv0,⟨by decide,by decide,fun p hp => by cases hp⟩⟩
theorem StOk.apply {s : StR} {x : NoteR} (h : StOk s) (hu : NU x) : StOk (applyS s x) := ⟨(h.inv.apply ⟨hu.1.1,hu.2.1.1,hu.2.2.1.1⟩).1,h.su.apply hu⟩
theorem StOk.write {M : MR} {x : NoteR} (h : StOk M.st) (hu : NU x) : StOk (writeM M x).st := by
 unfold writeM
 split
 ·exact h.apply hu
 ·exact h
def lg0 : LgM := ⟨1,Wl.cur [] (Pt.ptx 0 []),[],[]⟩
def nconf (ep : Int) (ms : List Mem) (fl : Int) (lg : List Int) (A : Option Addr) (c : Nat) (B : Option Addr) (d : Nat) : NoteR := ⟨1,0,0,ep,A,c,ms,fl,B,d,lg,none,0,⟨0,0,[]⟩,0,⟨0,0,0⟩,⟨0,0,0,0⟩⟩
def confN (ep : Int) (ms : List Mem) (fl : Int) (lg : List Int) : NoteR := nconf ep ms fl lg none 0 none 0
def newM (ep : Int) (l : List Mem) (fl : Int) : MR := doneM (writeM (mk0 lg0) (confN ep l fl (ids l)))
theorem nconf_ok {w : World} {ep fl : Int} {ms : List Mem} {lg : List Int} {A B : Option Addr} {c d : Nat} (h1 : Src w 2 A ms.length (mcells ms)) (h2 : ms.length <= c) (h3 : ms.length <= 1000) (h4 : Src w 1 B lg.length (ints lg)) (h5 : lg.length <= d) (h6 : lg.length <= 1000) : NOk w (nconf ep ms fl lg A c B d) :=
 ⟨h1,h2,h3,h4,h5,h6,Src.nil _ _ _⟩
theorem nconf_u {ep fl : Int} {ms : List Mem} {lg : List Int} {A B : Option Addr} {c d : Nat} (h : 0 <= fl /\ fl <= maxTs) : NU (nconf ep ms fl lg A c B d) := by
 have z : (0 : Int) <= 0 /\ (0 : Int) <= maxTs := by decide
 exact ⟨z,z,h,z⟩
section
variable {w w' : World} {X X0 : MX} {M M0 : MR} {c : Nat}
def NewPostM (w : World) (F : Nat -> Prop) (g : Nat) (ep : Int) (l : List Mem) (fl : Int) (e : Ending) (w' : World) : Prop :=
 ∃ X,e = .returned (.tuple #[.pointer (some ⟨X.mb,0,none⟩),.int .i64 0]) /\ MAt w' X (newM ep l fl) /\ LgB X (newM ep l fl).lg 2 /\ X.g = g /\ (∀ k,foot X (newM ep l fl) k -> F k \/ w.heap.size <= k) /\ Kept F w w'
theorem mnew_any (w : World) (g : Nat) (F : Nat -> Prop) (ser boot ep fl : Int) (A : Option Addr) (c : Nat) (l : List Mem) (hd : Disk.DiskAt w g F 0 (fun _ => none) [] ser boot) (hl : Src w 2 A l.length (mcells l)) (hoff : 0 < l.length -> ∀ ad,A = some ad -> ¬ F ad.block) (hlc : l.length <= c) (hlen : l.length <= 1000) (hfl : 0 <= fl /\ fl <= maxTs) (h0 : Plan.chk ep l = 0) :
  Calls Tryz.prog 16 #[.pointer (some ⟨g,0,none⟩),cagg ep A l.length c fl] w (NewPostM w F g ep l fl) := by
 have hchk := fun W (hW : Kept NoF w W) => Mst.ccheck_any W ep fl A c l (hl.kept hW (fun _ _ z => z)) hlc (by omega)
 rw [h0] at hchk
 have hFlt := hd.lt
 obtain ⟨W0,hW0⟩ : ∃ W0,w.alloc (.cells #[.int .i64 ep,.slice A l.length c,.int .u64 fl] 53) = W0 := ⟨_,rfl⟩
 have hk0 : Kept NoF w W0 := by rw [<- hW0];(repeat' (first | (with_reducible first | exact kR0 | apply kP0 | apply kN0 | apply kD0 | apply kA0) | (right;simp;done)))
 have hn0 : Has W0 w.heap.size 53 #[.int .i64 ep,.slice A l.length c,.int .u64 fl] := by rw [<- hW0];exact Has.new _ _ _
 have b0 : W0.cell? ⟨w.heap.size,0,none⟩ = some (.int .i64 ep) := hn0.cell 0
 have b1 : W0.cell? ⟨w.heap.size,1,none⟩ = some (.slice A l.length c) := hn0.cell 1
 have b2 : W0.cell? ⟨w.heap.size,2,none⟩ = some (.int .u64 fl) := hn0.cell 2
 have HC := hZ0 hchk;have HD := hZ0 hd;have HL := hZ0 hl;have HOFF := hZ0 hoff;have HLC := hZ0 hlc;have HLEN := hZ0 hlen;have HFL := hZ0 hfl;have HFLT := hZ0 hFlt;have HK0 := hZ0 hk0;have HN0 := hZ0 hn0
 clear hchk hd hl hoff hlc hlen hfl h0 hFlt hk0 hn0
 go_enter Tryz.func16,Tryz.ntmps16
 go_wp2_with fail
 clear hW0 b0 b1 b2
 refine (HC.out _ HK0.out).mono ?_
 rintro e w2 ⟨rfl,hk⟩
 have HN2 := hZ0 (HN0.out.kept hk (fun z => z));have HK2 := hZ0 (HK0.out.then hk);clear hk
 go_wp2_with fail
 refine (Pt.new_any' (HD.out.kept HK2.out (fun _ _ z => z)) (by omega)).mono ?_
 rintro e w3 ⟨gp,gw,F',m',A',c',rfl,hpt,hgp,hgw,hF',hk3⟩
 have hx0 : PtM w3 ⟨0,gp,gw,g,0,0,0,0,0,0,0,F',fun _ => False,none,0,none,0,A',c',0 + 1,m',[],ser,boot⟩ lg0 := ⟨hpt.d,hpt.p,hpt.wl,⟨hpt.row.1,fun _ _ => Nat.zero_le _⟩,hpt.log,hpt.low,hpt.f1,hpt.tx,hpt.hs⟩
 have hpf : ∀ k,Pt.PF gp gw F' A' 0 c' k -> F k \/ w2.heap.size <= k := fun k hk => by
  rcases hk with hk | hk | hk | hk
  ·exact hF' k hk
  ·exact .inr (by omega)
  ·exact .inr (by omega)
  ·exact .inr (hpt.row.2 k hk)
 have hk23 := hk3.size
 have hk03 : Kept F w w3 := (Kept.up HK2.out).then hk3
 have hn3 := HN2.out.kept hk3 (fun hf => Nat.lt_irrefl _ (HFLT.out _ hf))
 have HK23 := hZ0 hk23;have HX0 := hZ0 hx0;have HPF := hZ0 hpf;have HK3 := hZ0 hk03;have HN3 := hZ0 hn3
 clear hk23 hx0 hpf hk03 hn3 hpt hgp hgw hF' hk3
 go_wp2_with fail
 refine (made_any _ lg0 HX0.out).mono ?_
 rintro e w4 ⟨X,rfl,hm,hft,hk4,hXg,hXn,hXps,-,-,-⟩
 dsimp only at hXg hXn hXps
 have hb : LgB X (mk0 lg0).lg 0 := ⟨by rw [hXn,hXps];decide,by show (1 : Int) + ((Wl.cur [] (Pt.ptx 0 [])).length + 0 : Nat) <= 2;decide,Nat.zero_le _,Pt.hd_new _ _⟩
 have hn4 := HN3.out.kept hk4 (fun z => z)
 have hfoot2 : ∀ k,foot X (mk0 lg0) k -> F k \/ w2.heap.size <= k := fun k hk => by
  rcases hft k hk with y | y
  ·exact HPF.out k y
  ·have h2 := HK23.out;exact .inr (by omega)
 have h02 := HK2.out.size
 have hfoot : ∀ k,foot X (mk0 lg0) k -> F k \/ w.heap.size <= k := fun k hk => by
  rcases hfoot2 k hk with y | y
  ·exact .inl y
  ·exact .inr (by omega)
 have hfk : Kept F w w4 := HK3.out.then (Kept.up hk4)
 have hwr : ∀ (W : World) (B : Option Addr) (d : Nat),Kept NoF w4 W -> NewSl 3 1 w4.heap.size W B l.length d (ints (ids l)) -> Calls Tryz.prog 41 #[.pointer (some ⟨X.mb,0,none⟩),.agg (ncell (nconf ep l fl (ids l) A c B d)).toArray] W fun e w' =>
   (∃ k : Int,e = .returned (.int .i64 k)) /\ ∃ X',Step w4 X (mk0 lg0) w' X' (writeM (mk0 lg0) (confN ep l fl (ids l))) /\ LgB X' (writeM (mk0 lg0) (confN ep l fl (ids l))).lg 1 := fun W B d hW hr => by
  have hil := ids_len l
  have hr' : W.ownsRow 0 3 1 (.slice B (ids l).length d) (ids l).length (ints (ids l)) := by rw [hil];exact hr.1
  have hx : NOk W (nconf ep l fl (ids l) A c B d) := nconf_ok ((Src.keptOff HL.out hfk HOFF.out).kept hW (fun _ _ z => z)) HLC.out HLEN.out (Src.of_own hr') (own_cap hr').1 (by rw [hil];exact HLEN.out)
  refine (write_any (hm.quiet hW) hb (by omega) st0_ok.inv.ok _ hx (nconf_u HFL.out) ⟨fun h0 ad e hf => ?_,fun h0 ad e hf => ?_,fun h0 => absurd h0 (Nat.lt_irrefl 0)⟩).mono ?_
  ·obtain ⟨ad2,e2,hlt,_⟩ := HL.out.2 h0
   have e3 : ad = ad2 := by
    have e4 : some ad = some ad2 := e.symm.trans e2
    injection e4
   rw [e3] at hf
   rcases hfoot _ hf with y | y
   ·exact HOFF.out h0 ad2 e2 y
   ·omega
  ·obtain ⟨g',cap,hv,_,_⟩ := hr.1.form (by rw [<- hil];exact h0)
   have e5 : B = some ad := e
   rw [e5] at hv
   injection hv with hv
   injection hv with hv
   have h1 := hm.lt hf
   have h2 := hr.2 g' (by rw [e5,hv];rfl)
   rw [hv] at h1
   dsimp only at h1
   omega
  ·rintro e w' ⟨rfl,X',hs,hl'⟩
   exact ⟨⟨_,rfl⟩,X',(Step.refl hm hW).trans hs,hl'⟩
 have hids : ∀ W,Kept NoF w4 W -> Calls Tryz.prog 42 #[cagg ep A l.length c fl] W (IdsPost W l) := fun W hW => ids_any W ep fl A c l ((Src.keptOff HL.out hfk HOFF.out).kept hW (fun _ _ z => z)) HLEN.out
 have b0 : ∀ W,Kept NoF w4 W -> W.cell? ⟨w.heap.size,0,none⟩ = some (.int .i64 ep) /\ W.cell? ⟨w.heap.size,1,none⟩ = some (.slice A l.length c) /\ W.cell? ⟨w.heap.size,2,none⟩ = some (.int .u64 fl) := fun W hW => ⟨(hn4.kept hW (fun z => z)).cell 0,(hn4.kept hW (fun z => z)).cell 1,(hn4.kept hW (fun z => z)).cell 2⟩
 have hbf : ¬ foot X (mk0 lg0) w.heap.size := fun hf => by
  rcases hfoot2 _ hf with y | y
  ·exact Nat.lt_irrefl _ (HFLT.out _ y)
  ·have h1 := HN2.out.lt;omega
 have HBF := hZ0 hbf;have HN4 := hZ0 hn4
 obtain ⟨M1,hM1⟩ : ∃ M1,writeM (mk0 lg0) (confN ep l fl (ids l)) = M1 := ⟨_,rfl⟩
 have hst1 : StOk M1.st := by rw [<- hM1];exact StOk.write st0_ok (nconf_u HFL.out)
 have hNM : newM ep l fl = doneM M1 := by rw [<- hM1];rfl
 rw [hM1] at hwr
 simp only [nconf,ncell,List.length_nil,ids_len] at hwr
 have HWR := hZ0 hwr;have HID := hZ0 hids;have HB0 := hZ0 b0;have HST1 := hZ0 hst1;have HNM := hZ0 hNM;have HFT := hZ0 hfoot;have HFK := hZ0 hfk;have HM4 := hZ0 hm;have HG := hZ0 hXg
 clear hbf hfoot2 h02 hwr hids b0 hst1 hNM hM1 hfoot hfk hm hXg hXn hXps hb hn4 hk4 hft
 obtain ⟨c0,c1,c2⟩ := HB0.out _ (Kept.refl _ _)
 go_wp2_with fail
 go_region_held3 (fun W => W.cell? ⟨w.heap.size,0,none⟩ = some (.int .i64 ep) /\ W.cell? ⟨w.heap.size,1,none⟩ = some (.slice A l.length c) /\ W.cell? ⟨w.heap.size,2,none⟩ = some (.int .u64 fl)) (first | with_reducible exact z2 | with_reducible exact z1 | with_reducible exact ⟨c0,c1,c2⟩ | (simp [go_sem,c0,c1,c2];done))
  (first
   | (go_at_call 42;refine (HID.out _ (by (repeat' (first | (with_reducible first | exact kR0 | apply kP0 | apply kN0 | apply kD0 | apply kA0) | (right;simp;done))))).mono ?_;rintro e w5 ⟨B,d,rfl,hr,hk5⟩;have hk := Kept.then (F := NoF) (a := w4) (by (repeat' (first | (with_reducible first | exact kR0 | apply kP0 | apply kN0 | apply kD0 | apply kA0) | (right;simp;done)))) hk5;have z1 := HB0.out _ hk;have hr3 : NewSl 3 1 w4.heap.size w5 B l.length d (ints (ids l)) := hr;have HR := hZ0 hr3;have HK5 := hZ0 hk;clear hk hk5 hr hr3)
   | (go_at_call 41;refine (HWR.out _ B d (by (repeat' (first | (with_reducible first | exact kR0 | apply kP0 | apply kN0 | apply kD0 | apply kA0) | (exact HK5.out) | (right;simp;done)))) (NewSl.kept HR.out (by (repeat' (first | (with_reducible first | exact kR0 | apply kP0 | apply kN0 | apply kD0 | apply kA0) | (right;simp;done)))))).mono ?_;rintro e w6 ⟨⟨kk,rfl⟩,X6,hs6,hl6⟩;have z2 : w6.cell? ⟨w.heap.size,0,none⟩ = some (.int .i64 ep) /\ w6.cell? ⟨w.heap.size,1,none⟩ = some (.slice A l.length c) /\ w6.cell? ⟨w.heap.size,2,none⟩ = some (.int .u64 fl) := (by have h6 := Has.kept HN4.out hs6.k (by exact HBF.out);exact ⟨h6.cell 0,h6.cell 1,h6.cell 2⟩);have HS6 := hZ0 hs6;have HL6 := hZ0 hl6;clear hs6 hl6))
 clear c0 c1 c2 z1 z2
 have hdone := done_any HS6.out.at' HL6.out (by omega) HST1.out.inv.ok HST1.out.su HST1.out.inv.pl
 rw [HS6.out.mb] at hdone
 have HDO := hZ0 hdone;clear hdone
 go_wp2_with fail
 refine HDO.out.mono ?_
 rintro e w7 ⟨A7,d7,rfl,-,-,X7,hs7,hl7,-⟩
 have hst := HS6.out.trans hs7
 have hfin : NewPostM w F g ep l fl (.returned (.tuple #[.pointer (some ⟨X.mb,0,none⟩),.int .i64 0])) w7 := by
  unfold NewPostM
  rw [HNM.out]
  refine ⟨X7,by rw [hst.mb],hst.at',hl7,hst.dk.trans HG.out,fun k hk => ?_,?_⟩
  ·rcases hst.g k hk with y | y
   ·exact HFT.out k y
   ·have h2 := HFK.out.size;exact .inr (by omega)
  ·exact HFK.out.trans hst.k (fun k hk => HFT.out k hk)
 have HF := hZ0 hfin
 clear hst hs7 hl7 hfin
 go_wp2
 go_ret2
 exact HF.out
end
end Mas
end Go.Proofs.YtgffjliedjhbaaaGreat

/- Part 44 of what the proof needs. -/
import Derived.Test.YtgffjliedjhbaaaGreatZS02
import Derived.Test.YtgffjliedjhbaaaGreatZS40
import Derived.Test.YtgffjliedjhbaaaGreatZS41
import Derived.Test.YtgffjliedjhbaaaGreatZS42
import Derived.Deep.RegionLaw
import Derived.Lib.OthersKept
set_option linter.unusedSimpArgs false
set_option linter.unusedVariables false
set_option maxHeartbeats 32000000
set_option maxRecDepth 100000
namespace Go.Proofs.YtgffjliedjhbaaaGreat
open Go.RowKit
set_option maxRecDepth 100000
namespace Mas
open Plan Vn Mst Wat IM Nte
def LgM.app (L : LgM) (s : ByteArray) : LgM := { L with T := L.T ++ [84 :: Ops.bl s],l := L.l ++ [s] }
def LgM.sync (L : LgM) : LgM := { L with R := Wl.cur L.R L.T,T := [] }
def LgM.save (L : LgM) (l : List ByteArray) : LgM := ⟨L.first + (Wl.cur L.R L.T).length,Wl.cur [] (Pt.ptx l.length l),[],l⟩
def LgM.size (L : LgM) : Nat := Pt.szN (fun j => (Wl.bts (Wl.cur L.R L.T) j).length) (Wl.cur L.R L.T).length
structure LgB (X : MX) (L : LgM) (c : Nat) : Prop where
 n : X.n + X.ps.length <= 1 + 12 * c
 f : L.first + (L.R.length + L.T.length : Nat) <= 2 + 12 * (c : Int)
 l : L.l.length <= 12 * c
 hd : Pt.Hd L.R
theorem LgB.mono {X : MX} {L : LgM} {c d : Nat} (h : LgB X L c) (hd : c <= d) : LgB X L d := ⟨by have := h.n;omega,by have := h.f;omega,by have := h.l;omega,h.hd⟩
section
variable {ws w w' : World} {X X0 : MX} {M M0 : MR} {c : Nat}
theorem LgB.fits (h : LgB X M.lg c) (ha : MAt w X M) (hc : c <= 5000) : Wl.Fits X.n X.m X.ps := by
 have hp : PtM w X M.lg := ha.c 1
 have h1 := h.n
 have h2 := h.f
 have h3 := hp.f1
 exact Pt.low_size hp.low hp.log hp.f1 (by omega) (by omega) (by omega)
theorem LgB.cur (h : LgB X M.lg c) (ha : MAt w X M) : (Wl.cur M.lg.R M.lg.T).length <= M.lg.R.length + M.lg.T.length /\ Wl.lastOf (Wl.cur M.lg.R M.lg.T) <= M.lg.R.length + M.lg.T.length /\ M.lg.R.length + M.lg.T.length <= 1 + 12 * c := by
 have hp : PtM w X M.lg := ha.c 1
 have h1 := Wl.cur_grow M.lg.R M.lg.T
 have h2 := Wl.lastOf_le (Wl.cur M.lg.R M.lg.T)
 have h3 := h.f
 have h4 := hp.f1
 exact ⟨h1,by omega,by omega⟩
theorem MAt.setPt (h : MAt w X M) {gw' : Nat} {F' : Nat -> Prop} {A' : Option Addr} {c' n' : Nat} {m' : Disk.Safe} {ps' : List Disk.Pc} {L' : LgM}
  (hp : PtM w' { X with gw := gw',F := F',A := A',c := c',n := n',m := m',ps := ps' } L') (hk : Kept (parts X M 1) w w') (hg : ∀ k,F' k -> X.F k \/ w.heap.size <= k) (hgw : gw' = X.gw \/ w.heap.size <= gw')
  (hr : ∀ k,(Value.slice A' L'.l.length c').ownBlock = some k -> (Value.slice X.A M.lg.l.length X.c).ownBlock = some k \/ w.heap.size <= k) :
  Step w X M w' { X with gw := gw',F := F',A := A',c := c',n := n',m := m',ps := ps' } { M with lg := L' } :=
 h.upd 1 hk (fun j hj => by rcases j with _ | _ | _ | _ | _ | _ | _ | _ | _ | _ | _ | j <;> first | rfl | exact absurd rfl hj)
  (fun j hj hc => by rcases j with _ | _ | _ | _ | _ | _ | _ | _ | _ | _ | _ | j <;> first | exact hc | exact absurd rfl hj) hp (fun k hk => by
   rcases hk with y | y | y | y
   ·rcases hg k y with z | z
    ·exact .inl (.inl z)
    ·exact .inr z
   ·exact .inl (.inr (.inl y))
   ·rcases hgw with z | z
    ·exact .inl (.inr (.inr (.inl (y.trans z))))
    ·exact .inr (by rw [y];exact z)
   ·rcases hr k y with z | z
    ·exact .inl (.inr (.inr (.inr z)))
    ·exact .inr z) rfl
theorem noteB_len {x : NoteR} (hu : NU x) : (noteB x).size <= 2000 := by
 unfold noteB
 by_cases h0 : noteE x = 0
 rotate_left
 ·rw [if_neg h0];decide
 rw [if_pos h0]
 rw [<- Ops.size_bl,Ops.bl_ofL]
 obtain ⟨⟨u1,u2⟩,⟨u3,u4⟩,u5,⟨u6,u7⟩⟩ := hu
 unfold maxTs at u2 u4 u7
 have hn : x.k = 3 \/ x.k = 4 \/ x.k = 5 \/ x.k = 7 -> 0 <= x.n /\ x.n <= 1073741824 := fun h => by
  unfold noteE at h0
  rw [if_neg (by omega),if_neg (by omega),if_pos h] at h0
  exact rng_in h0
 have hL : ∀ n : Nat,n <= 18446744073709551615 -> (put n).length <= 9 := fun n h => put_le (by omega)
 unfold putN
 by_cases k1 : x.k = 1
 ·obtain ⟨e1,e2⟩ := noteE_conf h0 k1
  obtain ⟨l1,l2⟩ := leg_in e2
  have a1 := Msg.putT_len (s := Msg.confR x.ep x.ms x.fl) (m := 99) (Msg.confR_len u5) (by omega)
  have a2 := Msg.flatLen (fun i : Int => put i.toNat) x.lg 9 (fun y hy => by have := l2 y hy;exact hL _ (by omega))
  have a3 := hL x.lg.length (by omega)
  have a4 := hL x.k.toNat (by omega)
  rw [if_pos k1,List.length_append,List.length_append,List.length_append]
  omega
 rw [if_neg k1]
 by_cases k2 : x.k = 2
 ·have e1 : rngL [x.n] = 0 := by
   unfold noteE at h0
   rw [if_neg k1,if_pos k2] at h0
   by_cases hn : rngL [x.n] = 0
   ·exact hn
   ·rw [if_neg hn] at h0;exact absurd h0 hn
  have e2 := rng_in e1
  have a1 := Msg.putT_len (s := Msg.entR (entOf x)) (m := 121) (Msg.entR_len (e := entOf x) ⟨u6,by unfold maxTs;exact u7⟩) (by omega)
  have a2 := hL x.n.toNat (by omega)
  have a4 := hL x.k.toNat (by omega)
  rw [if_pos k2,List.length_append,List.length_append]
  omega
 rw [if_neg k2]
 by_cases k3 : x.k = 3
 ·have e2 := hn (by omega)
  have a1 := hL x.at'.toNat (by omega)
  have a2 := hL x.n.toNat (by omega)
  have a4 := hL x.k.toNat (by omega)
  rw [if_pos k3,List.length_append,List.length_append]
  omega
 rw [if_neg k3]
 by_cases k4 : x.k = 4
 ·have e2 := hn (by omega)
  have a1 := hL x.at'.toNat (by omega)
  have a2 := hL x.n.toNat (by omega)
  have a4 := hL x.k.toNat (by omega)
  rw [if_pos k4,List.length_append,List.length_append]
  omega
 rw [if_neg k4]
 by_cases k6 : x.k = 6
 ·have e1 : rngL [x.pin.id,x.pin.left] = 0 := by
   unfold noteE at h0
   rw [if_neg k1,if_neg k2,if_neg (by omega),if_pos k6] at h0
   exact h0
  obtain ⟨e2,e3⟩ := rng_in2 e1
  have a1 := hL x.pin.id.toNat (by omega)
  have a2 := hL x.pin.at'.toNat (by omega)
  have a3 := hL x.pin.left.toNat (by omega)
  have a4 := hL x.k.toNat (by omega)
  rw [if_pos k6,List.length_append,List.length_append,List.length_append]
  omega
 rw [if_neg k6]
 by_cases k8 : x.k = 8
 ·obtain ⟨e1,e2,e3,e4⟩ := said_in (noteE_said h0 k8)
  have a1 := hL x.said.cl.toNat (by omega)
  have a2 := hL x.said.req.toNat (by omega)
  have a3 := hL x.said.e.toNat (by omega)
  have a5 := hL x.said.pin.toNat (by omega)
  have a4 := hL x.k.toNat (by omega)
  rw [if_pos k8,List.length_append,List.length_append,List.length_append,List.length_append]
  omega
 rw [if_neg k8]
 have h57 : x.k = 5 \/ x.k = 7 := by
  unfold noteE at h0
  by_cases h57 : x.k = 5 \/ x.k = 7
  ·exact h57
  ·rw [if_neg k1,if_neg k2,if_neg (by omega),if_neg k6,if_neg k8] at h0;cases h0
 have e2 := hn (by omega)
 have a2 := hL x.n.toNat (by omega)
 have a4 := hL x.k.toNat (by omega)
 rw [List.length_append]
 omega
theorem run_field_ms (x f : Int) (A : Option Addr) (n c : Nat) (W : World) : (Instr.field 53 (.agg #[.int .i64 x,.slice A n c,.int .u64 f]) 1).run Tryz.prog W = .ok (.slice A n c) W := by kernel_rfl
attribute [local go_sem] run_field_ms
structure NOff (F : Nat -> Prop) (x : NoteR) : Prop where
 m : 0 < x.ms.length -> ∀ ad,x.mA = some ad -> ¬ F ad.block
 l : 0 < x.lg.length -> ∀ ad,x.lA = some ad -> ¬ F ad.block
 o : 0 < x.b.ops.length -> ∀ ad,x.oA = some ad -> ¬ F ad.block
theorem Src.keptOff {F : Nat -> Prop} {a b : World} {size m : Nat} {A : Option Addr} {news : List Value} (h : Src a size A m news) (hk : Kept F a b) (hf : 0 < m -> ∀ ad,A = some ad -> ¬ F ad.block) : Src b size A m news := by
 rcases Nat.eq_zero_or_pos m with h0 | h0
 ·subst h0
  have : news = [] := List.eq_nil_of_length_eq_zero (by simpa using h.1)
  subst this
  exact Src.nil _ _ _
 ·exact h.kept hk (hf h0)
theorem NOk.keptOff {F : Nat -> Prop} {a b : World} {x : NoteR} (h : NOk a x) (hk : Kept F a b) (hf : NOff F x) : NOk b x :=
 ⟨Src.keptOff h.m hk hf.m,h.mc,h.ml,Src.keptOff h.l hk hf.l,h.lc,h.ll,Src.keptOff h.o hk hf.o⟩
def writeM (M : MR) (x : NoteR) : MR := if applyE M.st x = 0 then { M with st := applyS M.st x,lg := M.lg.app (noteB x) } else M
def WritePost (w : World) (X : MX) (M : MR) (c : Nat) (x : NoteR) (e : Ending) (w' : World) : Prop := e = .returned (.int .i64 (applyE M.st x)) /\ ∃ X',Step w X M w' X' (writeM M x) /\ LgB X' (writeM M x).lg (c + 1)
attribute [local go_sem ↓] loadVar_note
attribute [local go_sem] run_loadNote
theorem write_any (h : MAt w X M) (hb : LgB X M.lg c) (hc : c <= 4000) (hok : SOk M.st) (x : NoteR) (hx : NOk w x) (hu : NU x) (ho : NOff (foot X M) x) :
  Calls Tryz.prog 41 #[.pointer (some ⟨X.mb,0,none⟩),nagg x] w (WritePost w X M c x) := by
 obtain ⟨W0,hW0⟩ : ∃ W0,w.alloc (.cells (ncell x).toArray 116) = W0 := ⟨_,rfl⟩
 have hk0 : Kept NoF w W0 := by rw [<- hW0];(repeat' (first | (with_reducible first | exact kR0 | apply kP0 | apply kN0 | apply kD0 | apply kA0) | (right;simp;done)))
 have hn0 : Has W0 w.heap.size 116 (ncell x).toArray := by rw [<- hW0];exact Has.new _ _ _
 have h0 := h.quiet hk0
 have q : W0.cell? ⟨X.mb,2,none⟩ = some (.pointer (some ⟨X.sb,0,none⟩)) := Has.cell (h0.c 0) 2
 have happ := apply_any W0.drew X.sb X.FS M.st x (h0.c 2) hok ((hx.kept hk0).kept (Kept.refl NoF W0).drew)
 have HA := hZ0 happ;have HN0 := hZ0 hn0;have HK0 := hZ0 hk0;have hd0 : MAt W0.drew X M := h0.quiet (Kept.refl NoF W0).drew
 have HD := hZ0 hd0;have HX := hZ0 hx;have HU := hZ0 hu;have HO := hZ0 ho;have HB := hZ0 hb;have HC := hZ0 hc
 have hkd : Kept NoF w W0.drew := hk0.drew
 have HKD := hZ0 hkd
 clear hd0 hkd
 obtain ⟨u1,u2⟩ := noteIn_has rfl hn0
 have hnf : ∀ k,X.FS k -> k < w.heap.size /\ k ≠ X.mb := fun k hf => ⟨h.lt ⟨2,hf⟩,fun e => absurd (h.ap 0 2 k e hf) (by decide)⟩
 have HNF := hZ0 hnf
 clear happ hn0 hk0 h0 h hx hu hb hc hok hnf ho
 go_enter Tryz.func41,Tryz.ntmps41
 go_wp2_with fail
 go_region_held3 (fun W => W.cell? ⟨X.mb,2,none⟩ = some (.pointer (some ⟨X.sb,0,none⟩)) /\ NoteIn W ⟨w.heap.size,0,none⟩ /\ noteAt W ⟨w.heap.size,0,none⟩ = (ncell x).toArray) (first | with_reducible exact ⟨z2,v1,v2⟩ | with_reducible exact ⟨q,u1,u2⟩ | exact ⟨q,u1,u2⟩)
  (first | (go_at_call 87;refine HA.out.mono ?_;rintro e w2 ⟨FS',rfl,hst,hg,hk⟩;have hn2 := (Has.drew HN0.out).kept hk (fun hf => Nat.lt_irrefl _ (HNF.out _ hf).1);have z2 : w2.cell? ⟨X.mb,2,none⟩ = some (.pointer (some ⟨X.sb,0,none⟩)) := (Has.kept (HD.out.c 0) hk (fun hf => (HNF.out _ hf).2 rfl)).cell 2;obtain ⟨v1,v2⟩ := noteIn_has rfl hn2;have HST := hZ0 hst;have HG := hZ0 hg;have HK := hZ0 hk;have HN2 := hZ0 hn2;clear hst hg hk hn2))
 clear z2 q u1 u2 v1 v2 hW0
 have hs1 : Step w X M W0.drew X M := ⟨HD.out,fun _ h => .inl h,Kept.up HKD.out,rfl⟩
 have hs2 : Step w X M w2 { X with FS := FS' } { M with st := applyS M.st x } := hs1.trans (MAt.setSt HD.out HST.out HG.out HK.out)
 have HS2 := hZ0 hs2
 clear hs1 hs2 HST HG HK HD HNF
 have hb2 : LgB { X with FS := FS' } M.lg (c + 1) := LgB.mono ⟨HB.out.n,HB.out.f,HB.out.l,HB.out.hd⟩ (by omega)
 by_cases hE : applyE M.st x = 0
 rotate_left
 ·have hfin : WritePost w X M c x (.returned (.int .i64 (applyE M.st x))) w2 := by
   have hw : writeM M x = M := if_neg hE
   have hs := HS2.out
   have e1 : applyS M.st x = M.st := by unfold applyS;rw [if_pos hE]
   rw [e1] at hs
   refine ⟨rfl,{ X with FS := FS' },?_,?_⟩
   ·rw [hw];exact hs
   ·rw [hw];exact hb2
  have HF := hZ0 hfin
  obtain ⟨z,hz⟩ : ∃ z,applyE M.st x = z := ⟨_,rfl⟩
  rw [hz] at hE HF ⊢
  have hz2 : (z != 0) = true := by simpa using hE
  clear hfin hE hz hb2
  go_wp2
  go_ret
  exact HF.out
 have hE0 := applyE_note hE
 have hs2 := HS2.out
 have hx2 := NOk.keptOff HX.out hs2.k HO.out
 have hput := nput_any hx2 HU.out
 rw [hE0] at hput
 have hsz := noteB_len HU.out
 have hm2 : MAt w2 { X with FS := FS' } { M with st := applyS M.st x } := hs2.at'
 have hw : writeM M x = { M with st := applyS M.st x,lg := M.lg.app (noteB x) } := if_pos hE
 obtain ⟨s,hs⟩ : ∃ s,noteB x = s := ⟨_,rfl⟩
 rw [hs] at hput hsz hw
 have q1 : ∀ W,Kept NoF w2 W -> W.cell? ⟨X.mb,1,none⟩ = some (.pointer (some ⟨X.gp,0,none⟩)) := fun W hW => Has.cell ((hm2.quiet hW).c 0) 1
 have HM2 := hZ0 hm2;have HPUT := hZ0 hput;have HSZ := hZ0 hsz;have HW := hZ0 hw;have HB2 := hZ0 hb2;have HQ1 := hZ0 q1
 clear hs2 hx2 hput hsz hm2 hw hs hb2 q1 hE0
 go_wp2_with (refine wpList_load_row rfl 116 (.tmp 3) rfl w.heap.size rfl 116 _ (0,0) _ HN2.out Tryz.underlying116 rfl (by kernel_rfl) ?_)
 refine HPUT.out.mono ?_
 rintro e w3 ⟨rfl,hk3⟩
 have q1 := HQ1.out _ hk3
 have hm3 := HM2.out.quiet hk3
 have hb3 : LgB { X with FS := FS' } ({ M with st := applyS M.st x } : MR).lg (c + 1) := HB2.out
 have hp3 : PtM w3 { X with FS := FS' } M.lg := hm3.c 1
 have hcur := LgB.cur hb3 hm3
 have happ := Pt.papp2_any hp3 (LgB.fits hb3 hm3 (by have := HC.out;omega)) (Nat.zero_le _) (by have h1 := HB.out.f;have h2 := hcur.2.1;have h3 := HC.out;have h4 : Wl.lastOf (Wl.cur M.lg.R M.lg.T) <= M.lg.R.length + M.lg.T.length := h2;omega) (by have := HB.out.l;have := HC.out;omega) s (by have := HSZ.out;omega)
 have HM3 := hZ0 hm3;have HAPP := hZ0 happ;have HK3 := hZ0 hk3
 clear hm3 hb3 hp3 hcur happ hk3
 go_wp2_with fail
 clear q1
 refine HAPP.out.mono ?_
 rintro e w4 ⟨rfl,F',A',c',hp4,hk4,hg4,hr4⟩
 have hst := MAt.setPt (X := { X with FS := FS' }) (M := { M with st := applyS M.st x }) (gw' := X.gw) (F' := F') (A' := A') (c' := c') (n' := X.n) (m' := X.m) (L' := M.lg.app s) HM3.out (w' := w4) hp4 hk4 hg4 (.inl rfl) hr4
 have hfin : WritePost w X M c x (.returned (.int .i64 0)) w4 := by
  have hstep := (HS2.out.quiet HK3.out).trans hst
  have e1 : ({ { M with st := applyS M.st x } with lg := M.lg.app s } : MR) = writeM M x := HW.out.symm
  rw [e1] at hstep
  refine ⟨by rw [hE],_,hstep,?_⟩
  ·rw [HW.out]
   have h1 := HB.out.n
   have h2 := HB.out.f
   have h3 := HB.out.l
   refine ⟨?_,?_,?_,HB.out.hd⟩
   ·show X.n + (X.ps ++ _).length <= _
    rw [List.length_append,List.length_singleton]
    omega
   ·show M.lg.first + (M.lg.R.length + (M.lg.T ++ [84 :: Ops.bl s]).length : Nat) <= _
    rw [List.length_append,List.length_singleton]
    omega
   ·show (M.lg.l ++ [s]).length <= _
    rw [List.length_append,List.length_singleton]
    omega
 have HF := hZ0 hfin
 clear hp4 hk4 hg4 hr4 hst hfin hE
 go_wp2
 go_ret
 exact HF.out
end
end Mas
end Go.Proofs.YtgffjliedjhbaaaGreat
namespace Go.Proofs.YtgffjliedjhbaaaGreat
open Go.RowKit Go.Shelf
set_option maxRecDepth 100000
namespace WireO
open Vn Ops Wire
abbrev KB := Nat × Obj
theorem obj_lt {w : World} {k : Nat} {o : Obj} (h : w.heap[k]? = some o) : k < w.heap.size := (Array.getElem?_eq_some_iff.1 h).1
theorem obj_kept {F : Nat -> Prop} {a b : World} {k : Nat} {o : Obj} (h : a.heap[k]? = some o) (hk : Kept F a b) (hf : ¬ F k) : b.heap[k]? = some o := (hk.block k (obj_lt h) hf).trans h
def WS (N : Nat) (w : World) (g : Nat) (bs : List UInt8) (keep : List KB) : Prop :=
 N <= w.heap.size /\ ∃ F,WrAt w g F bs /\ (∀ k,F k -> N <= k) /\ ∀ x ∈ keep,¬ F x.1 /\ w.heap[x.1]? = some x.2
section
variable {N g : Nat} {w w' : World} {bs : List UInt8} {keep : List KB}
theorem WS.alloc (h : WS N w g bs keep) (o : Obj) : WS N (w.alloc o) g bs keep := by
 obtain ⟨h0,F,h1,h2,h3⟩ := h
 exact ⟨by simp;omega,F,h1.kept ((Kept.refl NoF w).alloc o) (sep_no F),h2,fun x hx => ⟨(h3 x hx).1,obj_kept (h3 x hx).2 ((Kept.refl NoF w).alloc o) (fun z => z)⟩⟩
theorem WS.add (h : WS N w g bs keep) (o : Obj) : WS N (w.alloc o) g bs ((w.heap.size,o) :: keep) := by
 obtain ⟨h0,F,h1,h2,h3⟩ := h
 refine ⟨by simp;omega,F,h1.kept ((Kept.refl NoF w).alloc _) (sep_no F),h2,fun x hx => ?_⟩
 rcases List.mem_cons.1 hx with rfl | hx
 ·exact ⟨fun hF => by have := h1.lt _ hF;simp at this,heap_alloc_new w o⟩
 ·exact ⟨(h3 x hx).1,obj_kept (h3 x hx).2 ((Kept.refl NoF w).alloc _) (fun z => z)⟩
theorem WS.tail {x : KB} (h : WS N w g bs (x :: keep)) : WS N w g bs keep := by
 obtain ⟨h0,F,h1,h2,h3⟩ := h
 exact ⟨h0,F,h1,h2,fun y hy => h3 y (List.mem_cons_of_mem _ hy)⟩
theorem WS.tail2 {x y : KB} (h : WS N w g bs (x :: y :: keep)) : WS N w g bs (y :: keep) := h.tail
theorem WS.has {x : KB} (h : WS N w g bs keep) (hx : x ∈ keep) : w.heap[x.1]? = some x.2 := by
 obtain ⟨h0,F,h1,h2,h3⟩ := h
 exact (h3 x hx).2
theorem WS.kept {G : Nat -> Prop} (h : WS N w g bs keep) (hk : Kept NoF w w') : WS N w' g bs keep := by
 obtain ⟨h0,F,h1,h2,h3⟩ := h
 exact ⟨Nat.le_trans h0 hk.size,F,h1.kept hk (sep_no F),h2,fun x hx => ⟨(h3 x hx).1,obj_kept (h3 x hx).2 hk (fun y => y)⟩⟩
def WPost (N : Nat) (w : World) (g : Nat) (bs : List UInt8) (keep : List KB) (e : Ending) (w' : World) : Prop := e = .returned (.pointer (some ⟨g,0,none⟩)) /\ WS N w' g bs keep /\ Below N w w'
theorem WS.step {f : FuncId} {args : Array Value} {bs' : List UInt8} (h : WS N w g bs keep)
  (hc : ∀ F,WrAt w g F bs -> Calls Tryz.prog f args w (Wrote w g F bs')) : Calls Tryz.prog f args w (WPost N w g bs' keep) := by
 obtain ⟨h0,F,h1,h2,h3⟩ := h
 refine (hc F h1).mono ?_
 rintro e w' ⟨he,F',g1,g2,g3⟩
 refine ⟨he,⟨Nat.le_trans h0 g3.size,F',g1,fun k hk => ?_,fun x hx => ⟨fun hF => ?_,obj_kept (h3 x hx).2 g3 (h3 x hx).1⟩⟩,g3.below h0 h2⟩
 ·rcases g2 k hk with y | y
  ·exact h2 k y
  ·omega
 ·rcases g2 x.1 hF with y | y
  ·exact (h3 x hx).1 y
  ·have := obj_lt (h3 x hx).2;omega
theorem num_s (h : WS N w g bs keep) (n : Nat) (hn : n <= 9223372036854775807) (hlen : bs.length + 9 <= 140737488355328) :
  Calls Tryz.prog 152 #[.pointer (some ⟨g,0,none⟩),.int .i64 n] w (WPost N w g (bs ++ put n) keep) := h.step fun F hF => wnum_any w g F bs n hn hF hlen
theorem big_s (h : WS N w g bs keep) (n : Nat) (hn : n < 18446744073709551616) (hlen : bs.length + 9 <= 140737488355328) :
  Calls Tryz.prog 156 #[.pointer (some ⟨g,0,none⟩),.int .u64 n] w (WPost N w g (bs ++ put n) keep) := h.step fun F hF => wbig_any w g F bs n hn hF hlen
theorem text_s (h : WS N w g bs keep) (s : ByteArray) (hlen : bs.length + 9 + s.size <= 140737488355328) :
  Calls Tryz.prog 154 #[.pointer (some ⟨g,0,none⟩),.string s] w (WPost N w g (bs ++ putT s) keep) := h.step fun F hF => wtext_any w g F bs s hF hlen
theorem flag_s (h : WS N w g bs keep) (b : Bool) (hlen : bs.length + 9 <= 140737488355328) :
  Calls Tryz.prog 244 #[.pointer (some ⟨g,0,none⟩),.bool b] w (WPost N w g (bs ++ putF b) keep) := h.step fun F hF => wflag_any w g F bs b hF (by omega)
theorem new_s (w : World) (keep : List KB) (hk : ∀ x ∈ keep,w.heap[x.1]? = some x.2) :
  Calls Tryz.prog 151 #[] w fun e w' => ∃ g,e = .returned (.pointer (some ⟨g,0,none⟩)) /\ WS w.heap.size w' g [] keep /\ Kept NoF w w' := by
 refine (wnew_any w).mono ?_
 rintro e w' ⟨he,h1,h2⟩
 exact ⟨w.heap.size,he,⟨h2.size,_,h1,fun k hk => by rw [hk];exact Nat.le_refl _,fun x hx => ⟨fun e => by have := obj_lt (hk x hx);omega,obj_kept (hk x hx) h2 (fun y => y)⟩⟩,h2⟩
theorem done_s (h : WS N w g bs keep) (h0 : bs ≠ []) :
  Calls Tryz.prog 157 #[.pointer (some ⟨g,0,none⟩)] w fun e w' => e = .returned (.tuple #[.string (ofL bs),.int .i64 0]) /\ Below N w w' := by
 obtain ⟨hN,F,h1,h2,h3⟩ := h
 refine (done_any w g F bs h1 h0).mono ?_
 rintro e w' ⟨he,hk⟩
 exact ⟨he,hk.below hN h2⟩
theorem behind {a b : World} (h : Kept NoF w a) (hb : Below N a b) (hN : w.heap.size <= N) : Kept NoF w b :=
 h.trans (G := fun k => N <= k) (Kept.of_below hb fun k _ hf => by omega) fun i hi => .inr (by omega)
end
end WireO
end Go.Proofs.YtgffjliedjhbaaaGreat

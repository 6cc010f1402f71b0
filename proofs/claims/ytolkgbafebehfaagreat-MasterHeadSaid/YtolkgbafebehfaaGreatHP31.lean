/- Part 32 of what the proof needs. -/
import Derived.Test.YtolkgbafebehfaaGreatHP10
import Derived.Test.YtolkgbafebehfaaGreatHP18
import Derived.Test.YtolkgbafebehfaaGreatHP21
import Derived.Test.YtolkgbafebehfaaGreatHP30
import Derived.Laws.IdiomCopy
set_option linter.unusedSimpArgs false
set_option linter.unusedVariables false
set_option maxHeartbeats 32000000
set_option maxRecDepth 100000
namespace Go.Proofs.YtolkgbafebehfaaGreat
open Go.RowKit
set_option maxRecDepth 100000
namespace Mas
open Plan Vn Mst Wat IM
structure OutR where
 to : Int
 body : ByteArray
deriving DecidableEq
def ocell (o : OutR) : List Value := [.int .i64 o.to,.string o.body]
def ocells (l : List OutR) : List Value := l.flatMap ocell
structure LgM where
 first : Int
 R : Wl.St
 T : List (List UInt8)
 l : List ByteArray
structure MR where
 lg : LgM
 st : StR
 pins : List PinR
 ns : List Int
 tk : Int
 marks : Int -> Option Int
 serial : Int -> Option Int
 last : Int
 joins : Int -> Bool
 leaves : Int -> Bool
 lost : Int -> Bool
 out : List OutR
 cnt : Nat
structure MX where
 mb : Nat
 gp : Nat
 gw : Nat
 g : Nat
 sb : Nat
 wb : Nat
 mm : Nat
 se : Nat
 jo : Nat
 le : Nat
 lo : Nat
 F : Nat -> Prop
 FS : Nat -> Prop
 pA : Option Addr
 pc : Nat
 oA : Option Addr
 oc : Nat
 A : Option Addr
 c : Nat
 n : Nat
 m : Disk.Safe
 ps : List Disk.Pc
 ser : Int
 boot : Int
def MX.fix (X : MX) : List Nat := [X.mb,X.gp,X.g,X.sb,X.wb,X.mm,X.se,X.jo,X.le,X.lo]
def mcellsM (X : MX) (M : MR) : Array Value := #[.pointer (some ⟨X.g,0,none⟩),.pointer (some ⟨X.gp,0,none⟩),.pointer (some ⟨X.sb,0,none⟩),.slice X.pA M.pins.length X.pc,.pointer (some ⟨X.wb,0,none⟩),.map (some X.mm),.map (some X.se),.int .u64 M.last,.map (some X.jo),.map (some X.le),.map (some X.lo),.slice X.oA M.out.length X.oc]
def parts (X : MX) (M : MR) : Nat -> Nat -> Prop
 | 0 => fun k => k = X.mb
 | 1 => Pt.PF X.gp X.gw X.F X.A M.lg.l.length X.c
 | 2 => X.FS
 | 3 => fun k => (Value.slice X.pA M.pins.length X.pc).ownBlock = some k
 | 4 => fun k => k = X.wb
 | 5 => fun k => k = X.mm
 | 6 => fun k => k = X.se
 | 7 => fun k => k = X.jo
 | 8 => fun k => k = X.le
 | 9 => fun k => k = X.lo
 | 10 => fun k => (Value.slice X.oA M.out.length X.oc).ownBlock = some k
 | _ => fun _ => False
def PtM (w : World) (X : MX) (L : LgM) : Prop := Pt.PtAt w 0 X.gp X.gw X.g X.F X.n X.m X.ps X.ser X.boot L.first L.R L.T X.A X.c L.l
def Comp (X : MX) (M : MR) (w : World) : Nat -> Prop
 | 0 => Has w X.mb 65 (mcellsM X M)
 | 1 => PtM w X M.lg
 | 2 => StAt w X.sb X.FS M.st
 | 3 => w.ownsRow 0 79 3 (.slice X.pA M.pins.length X.pc) M.pins.length (pcells M.pins)
 | 4 => WtAt w X.wb M.ns M.tk
 | 5 => IMap .u64 23 w X.mm M.cnt M.marks
 | 6 => IMap .i64 3 w X.se M.cnt M.serial
 | 7 => SetIs w X.jo M.cnt M.joins
 | 8 => SetIs w X.le M.cnt M.leaves
 | 9 => SetIs w X.lo M.cnt M.lost
 | 10 => w.ownsRow 0 143 2 (.slice X.oA M.out.length X.oc) M.out.length (ocells M.out)
 | _ => True
theorem PtM.keptG {w w' : World} {X : MX} {L : LgM} {G : Nat -> Prop} (h : PtM w X L) (hk : Kept G w w') (hs : ∀ k,Pt.PF X.gp X.gw X.F X.A L.l.length X.c k -> ¬ G k) : PtM w' X L :=
 ⟨h.d.kept hk (fun k hf => hs k (.inl hf)),h.p.kept hk (hs _ (.inr (.inl rfl))),h.wl.kept hk (hs _ (.inr (.inr (.inl rfl)))),⟨own_kept h.row.1 hk (fun g hg => hs g (.inr (.inr (.inr hg)))),h.row.2⟩,h.log,h.low,h.f1,h.tx,h.hs⟩
theorem Comp.kept {X : MX} {M : MR} {w w' : World} {G : Nat -> Prop} {i : Nat} (h : Comp X M w i) (hk : Kept G w w') (hs : ∀ k,parts X M i k -> ¬ G k) : Comp X M w' i := by
 rcases i with _ | _ | _ | _ | _ | _ | _ | _ | _ | _ | _ | i
 ·exact Has.kept h hk (hs _ rfl)
 ·exact PtM.keptG h hk hs
 ·exact StAt.kept h hk hs
 ·exact own_kept h hk hs
 ·exact Has.kept h hk (hs _ rfl)
 ·exact IMap.kept h hk (hs _ rfl)
 ·exact IMap.kept h hk (hs _ rfl)
 ·exact SetIs.kept h hk (hs _ rfl)
 ·exact SetIs.kept h hk (hs _ rfl)
 ·exact SetIs.kept h hk (hs _ rfl)
 ·exact own_kept h hk hs
 ·trivial
theorem Comp.lt {X : MX} {M : MR} {w : World} {i k : Nat} (h : Comp X M w i) (hp : parts X M i k) : k < w.heap.size := by
 rcases i with _ | _ | _ | _ | _ | _ | _ | _ | _ | _ | _ | i
 ·obtain rfl : k = X.mb := hp
  exact Has.lt h
 ·have hh : PtM w X M.lg := h
  rcases hp with hp | hp | hp | hp
  ·exact hh.d.lt k hp
  ·rw [hp];exact Has.lt hh.p
  ·rw [hp];exact Has.lt hh.wl
  ·exact own_lt hh.row.1 hp
 ·exact StAt.lt h k hp
 ·exact own_lt h hp
 ·obtain rfl : k = X.wb := hp
  exact Has.lt h
 ·obtain rfl : k = X.mm := hp
  exact IMap.lt h
 ·obtain rfl : k = X.se := hp
  exact IMap.lt h
 ·obtain rfl : k = X.jo := hp
  exact SetIs.lt h
 ·obtain rfl : k = X.le := hp
  exact SetIs.lt h
 ·obtain rfl : k = X.lo := hp
  exact SetIs.lt h
 ·exact own_lt h hp
 ·exact hp.elim
structure MAt (w : World) (X : MX) (M : MR) : Prop where
 c : ∀ i,Comp X M w i
 ap : ∀ i j k,parts X M i k -> parts X M j k -> i = j
def foot (X : MX) (M : MR) (k : Nat) : Prop := ∃ i,parts X M i k
theorem MAt.lt {w : World} {X : MX} {M : MR} (h : MAt w X M) {k : Nat} (hk : foot X M k) : k < w.heap.size := by
 obtain ⟨i,hi⟩ := hk
 exact (h.c i).lt hi
theorem MAt.quiet {w w' : World} {X : MX} {M : MR} (h : MAt w X M) (hk : Kept NoF w w') : MAt w' X M := ⟨fun i => (h.c i).kept hk (fun _ _ z => z),h.ap⟩
structure Step (w : World) (X : MX) (M : MR) (w' : World) (X' : MX) (M' : MR) : Prop where
 at' : MAt w' X' M'
 g : ∀ k,foot X' M' k -> foot X M k \/ w.heap.size <= k
 k : Kept (foot X M) w w'
 fx : X'.fix = X.fix
theorem Step.mb {w w' : World} {X X' : MX} {M M' : MR} (h : Step w X M w' X' M') : X'.mb = X.mb := by have := h.fx;simp only [MX.fix,List.cons.injEq] at this;exact this.1
theorem Step.sb {w w' : World} {X X' : MX} {M M' : MR} (h : Step w X M w' X' M') : X'.sb = X.sb := by have := h.fx;simp only [MX.fix,List.cons.injEq] at this;exact this.2.2.2.1
theorem Step.gp {w w' : World} {X X' : MX} {M M' : MR} (h : Step w X M w' X' M') : X'.gp = X.gp := by have := h.fx;simp only [MX.fix,List.cons.injEq] at this;exact this.2.1
theorem Step.dk {w w' : World} {X X' : MX} {M M' : MR} (h : Step w X M w' X' M') : X'.g = X.g := by have := h.fx;simp only [MX.fix,List.cons.injEq] at this;exact this.2.2.1
theorem Step.refl {w w' : World} {X : MX} {M : MR} (h : MAt w X M) (hk : Kept NoF w w') : Step w X M w' X M := ⟨h.quiet hk,fun _ h => .inl h,Kept.up hk,rfl⟩
theorem Step.trans {w w1 w2 : World} {X X1 X2 : MX} {M M1 M2 : MR} (h : Step w X M w1 X1 M1) (k : Step w1 X1 M1 w2 X2 M2) : Step w X M w2 X2 M2 :=
 ⟨k.at',fun i hi => by
  rcases k.g i hi with y | y
  ·exact h.g i y
  ·have := h.k.size;exact .inr (by omega),h.k.trans k.k h.g,k.fx.trans h.fx⟩
theorem Step.quiet {w w1 w2 : World} {X X1 : MX} {M M1 : MR} (h : Step w X M w1 X1 M1) (hk : Kept NoF w1 w2) : Step w X M w2 X1 M1 := h.trans (Step.refl h.at' hk)
theorem MAt.upd {w w' : World} {X X' : MX} {M M' : MR} (h : MAt w X M) (i : Nat) (hk : Kept (parts X M i) w w') (hsp : ∀ j,j ≠ i -> parts X' M' j = parts X M j) (hsc : ∀ j,j ≠ i -> Comp X M w' j -> Comp X' M' w' j)
  (hc : Comp X' M' w' i) (hg : ∀ k,parts X' M' i k -> parts X M i k \/ w.heap.size <= k) (hmb : X'.fix = X.fix) : Step w X M w' X' M' := by
 have hap : ∀ j k,j ≠ i -> parts X M j k -> ¬ parts X M i k := fun j k hj h1 h2 => hj (h.ap j i k h1 h2)
 refine ⟨⟨fun j => ?_,fun a b k ha hb => ?_⟩,fun k hf => ?_,hk.mono fun k hk => ⟨i,hk⟩,hmb⟩
 ·by_cases hj : j = i
  ·subst hj;exact hc
  ·exact hsc j hj ((h.c j).kept hk (fun k hp => hap j k hj hp))
 ·by_cases h1 : a = i
  ·by_cases h2 : b = i
   ·rw [h1,h2]
   ·subst h1
    rw [hsp b h2] at hb
    rcases hg k ha with y | y
    ·exact h.ap a b k y hb
    ·have := (h.c b).lt hb;omega
  ·by_cases h2 : b = i
   ·subst h2
    rw [hsp a h1] at ha
    rcases hg k hb with y | y
    ·exact h.ap a b k ha y
    ·have := (h.c a).lt ha;omega
   ·rw [hsp a h1] at ha
    rw [hsp b h2] at hb
    exact h.ap a b k ha hb
 ·obtain ⟨j,hj⟩ := hf
  by_cases h1 : j = i
  ·subst h1
   rcases hg k hj with y | y
   ·exact .inl ⟨j,y⟩
   ·exact .inr y
  ·rw [hsp j h1] at hj
   exact .inl ⟨j,hj⟩
theorem Step.upd2 {ws w w' : World} {X0 X X' : MX} {M0 M M' : MR} (h : Step ws X0 M0 w X M) (S : Nat -> Prop) (hk : Kept (fun k => ∃ i,S i /\ parts X M i k) w w') (hsp : ∀ j,¬ S j -> parts X' M' j = parts X M j) (hsc : ∀ j,¬ S j -> Comp X M w' j -> Comp X' M' w' j)
  (hc : ∀ i,S i -> Comp X' M' w' i) (hg : ∀ i k,S i -> parts X' M' i k -> parts X M i k \/ (¬ foot X M k /\ ws.heap.size <= k)) (hfr : ∀ i j k,S i -> S j -> parts X' M' i k -> parts X' M' j k -> ¬ foot X M k -> i = j) (hmb : X'.fix = X.fix) : Step ws X0 M0 w' X' M' := by
 have ha := h.at'
 refine ⟨⟨fun j => ?_,fun a b k h1 h2 => ?_⟩,fun k hf => ?_,?_,hmb.trans h.fx⟩
 ·by_cases hj : S j
  ·exact hc j hj
  ·refine hsc j hj ((ha.c j).kept hk (fun k hp => ?_))
   rintro ⟨i,hi,hp2⟩
   obtain rfl := ha.ap i j k hp2 hp
   exact hj hi
 ·by_cases s1 : S a
  ·by_cases s2 : S b
   ·rcases hg a k s1 h1 with y | ⟨y,_⟩
    ·rcases hg b k s2 h2 with z | ⟨z,_⟩
     ·exact ha.ap a b k y z
     ·exact absurd ⟨a,y⟩ z
    ·exact hfr a b k s1 s2 h1 h2 y
   ·rw [hsp b s2] at h2
    rcases hg a k s1 h1 with y | ⟨y,_⟩
    ·exact ha.ap a b k y h2
    ·exact absurd ⟨b,h2⟩ y
  ·rw [hsp a s1] at h1
   by_cases s2 : S b
   ·rcases hg b k s2 h2 with z | ⟨z,_⟩
    ·exact ha.ap a b k h1 z
    ·exact absurd ⟨a,h1⟩ z
   ·rw [hsp b s2] at h2
    exact ha.ap a b k h1 h2
 ·obtain ⟨j,hj⟩ := hf
  by_cases s1 : S j
  ·rcases hg j k s1 hj with y | ⟨_,y⟩
   ·exact h.g k ⟨j,y⟩
   ·exact .inr y
  ·rw [hsp j s1] at hj
   exact h.g k ⟨j,hj⟩
 ·exact h.k.trans hk (fun k hp => by obtain ⟨i,_,hp⟩ := hp;exact h.g k ⟨i,hp⟩)
section
variable {ws w w' : World} {X X0 : MX} {M M0 : MR}
theorem Step.setPins (h : Step ws X0 M0 w X M) {A : Option Addr} {c : Nat} {l : List PinR} (hr : w.ownsRow 0 79 3 (.slice A l.length c) l.length (pcells l)) (hnew : ∀ k,(Value.slice A l.length c).ownBlock = some k -> ws.heap.size <= k /\ ¬ foot X M k) :
  Step ws X0 M0 (w.setCell ⟨X.mb,3,none⟩ (.slice A l.length c)) { X with pA := A,pc := c } { M with pins := l } := by
 have hk : Kept (fun k => k = X.mb) w (w.setCell ⟨X.mb,3,none⟩ (.slice A l.length c)) := (Kept.refl _ w).put (.inl rfl)
 refine h.upd2 (fun i => i = 0 \/ i = 3) (hk.mono fun k hk => ⟨0,.inl rfl,hk⟩) (fun j hj => ?_) (fun j hj hc => ?_) (fun i hi => ?_) (fun i k hi hp => ?_) (fun i j k hi hj h1 h2 hf => ?_) rfl
 ·rcases j with _ | _ | _ | _ | _ | _ | _ | _ | _ | _ | _ | j <;> first | rfl | exact absurd (Or.inl rfl) hj | exact absurd (Or.inr rfl) hj
 ·rcases j with _ | _ | _ | _ | _ | _ | _ | _ | _ | _ | _ | j <;> first | exact hc | exact absurd (Or.inl rfl) hj | exact absurd (Or.inr rfl) hj
 ·rcases hi with rfl | rfl
  ·exact Has.put_of (h.at'.c 0) rfl
  ·exact own_kept hr hk (fun g hg e => (hnew g hg).2 ⟨0,e⟩)
 ·rcases hi with rfl | rfl
  ·exact .inl hp
  ·exact .inr ⟨(hnew k hp).2,(hnew k hp).1⟩
 ·rcases hi with rfl | rfl <;> rcases hj with rfl | rfl
  ·rfl
  ·exact absurd ⟨0,h1⟩ hf
  ·exact absurd ⟨0,h2⟩ hf
  ·rfl
theorem Step.setOut (h : Step ws X0 M0 w X M) {w9 : World} {A : Option Addr} {c : Nat} {l : List OutR} (hr : w9.ownsRow 0 143 2 (.slice A l.length c) l.length (ocells l)) (hk9 : Kept (fun k => (Value.slice X.oA M.out.length X.oc).ownBlock = some k) w w9)
  (hg : ∀ k,(Value.slice A l.length c).ownBlock = some k -> (Value.slice X.oA M.out.length X.oc).ownBlock = some k \/ w.heap.size <= k) :
  Step ws X0 M0 (w9.setCell ⟨X.mb,11,none⟩ (.slice A l.length c)) { X with oA := A,oc := c } { M with out := l } := by
 have hk : Kept (fun k => ∃ i,(i = 0 \/ i = 10) /\ parts X M i k) w (w9.setCell ⟨X.mb,11,none⟩ (.slice A l.length c)) := Kept.put (hk9.mono fun k hk => ⟨10,.inr rfl,hk⟩) (.inl ⟨0,.inl rfl,rfl⟩)
 have hmb : X.mb < w.heap.size := (h.at'.c 0).lt rfl
 refine h.upd2 (fun i => i = 0 \/ i = 10) hk (fun j hj => ?_) (fun j hj hc => ?_) (fun i hi => ?_) (fun i k hi hp => ?_) (fun i j k hi hj h1 h2 hf => ?_) rfl
 ·rcases j with _ | _ | _ | _ | _ | _ | _ | _ | _ | _ | _ | j <;> first | rfl | exact absurd (Or.inl rfl) hj | exact absurd (Or.inr rfl) hj
 ·rcases j with _ | _ | _ | _ | _ | _ | _ | _ | _ | _ | _ | j <;> first | exact hc | exact absurd (Or.inl rfl) hj | exact absurd (Or.inr rfl) hj
 ·rcases hi with rfl | rfl
  ·exact Has.put_of (Has.kept (h.at'.c 0) hk9 (fun e => absurd (h.at'.ap 0 10 _ rfl e) (by decide))) rfl
  ·exact own_kept (F := fun k => k = X.mb) hr ((Kept.refl _ w9).put (.inl rfl)) (fun g hg2 e => by
    rcases hg g hg2 with y | y
    ·exact absurd (h.at'.ap 0 10 g e y) (by decide)
    ·omega)
 ·rcases hi with rfl | rfl
  ·exact .inl hp
  ·rcases hg k hp with y | y
   ·exact .inl y
   ·exact .inr ⟨fun hf => by have := h.at'.lt hf;omega,Nat.le_trans h.k.size y⟩
 ·rcases hi with rfl | rfl <;> rcases hj with rfl | rfl
  ·rfl
  ·exact absurd ⟨0,h1⟩ hf
  ·exact absurd ⟨0,h2⟩ hf
  ·rfl
theorem Step.setLast (h : Step ws X0 M0 w X M) (x : Int) : Step ws X0 M0 (w.setCell ⟨X.mb,7,none⟩ (.int .u64 x)) X { M with last := x } :=
 h.trans (h.at'.upd 0 ((Kept.refl _ w).put (.inl rfl)) (fun j hj => by rcases j with _ | _ | _ | _ | _ | _ | _ | _ | _ | _ | _ | j <;> first | rfl | exact absurd rfl hj)
  (fun j hj hc => by rcases j with _ | _ | _ | _ | _ | _ | _ | _ | _ | _ | _ | j <;> first | exact hc | exact absurd rfl hj) (Has.put_of (h.at'.c 0) rfl) (fun k hk => .inl hk) rfl)
theorem Step.clearOut (h : Step ws X0 M0 w X M) : Step ws X0 M0 (w.setCell ⟨X.mb,11,none⟩ (.slice none 0 0)) { X with oA := none,oc := 0 } { M with out := [] } := by
 have hk : Kept (fun k => k = X.mb) w (w.setCell ⟨X.mb,11,none⟩ (.slice none 0 0)) := (Kept.refl _ w).put (.inl rfl)
 refine h.upd2 (fun i => i = 0 \/ i = 10) (hk.mono fun k hk => ⟨0,.inl rfl,hk⟩) (fun j hj => ?_) (fun j hj hc => ?_) (fun i hi => ?_) (fun i k hi hp => ?_) (fun i j k hi hj h1 h2 hf => ?_) rfl
 ·rcases j with _ | _ | _ | _ | _ | _ | _ | _ | _ | _ | _ | j <;> first | rfl | exact absurd (Or.inl rfl) hj | exact absurd (Or.inr rfl) hj
 ·rcases j with _ | _ | _ | _ | _ | _ | _ | _ | _ | _ | _ | j <;> first | exact hc | exact absurd (Or.inl rfl) hj | exact absurd (Or.inr rfl) hj
 ·rcases hi with rfl | rfl
  ·exact Has.put_of (h.at'.c 0) rfl
  ·exact ⟨rfl,.inl ⟨rfl,rfl⟩⟩
 ·rcases hi with rfl | rfl
  ·exact .inl hp
  ·simp [parts,Value.ownBlock] at hp
 ·rcases hi with rfl | rfl <;> rcases hj with rfl | rfl
  ·rfl
  ·simp [parts,Value.ownBlock] at h2
  ·simp [parts,Value.ownBlock] at h1
  ·rfl
end
section
variable {w w' : World} {X : MX} {M : MR}
theorem MAt.setMarks (h : MAt w X M) {n : Nat} {f : Int -> Option Int} (hw : IMap .u64 23 w' X.mm n f) (hn : M.cnt <= n) (hk : Kept (fun k => k = X.mm) w w') : Step w X M w' X { M with marks := f,cnt := n } :=
 h.upd 5 hk (fun j hj => by rcases j with _ | _ | _ | _ | _ | _ | _ | _ | _ | _ | _ | j <;> first | rfl | exact absurd rfl hj)
  (fun j hj hc => by rcases j with _ | _ | _ | _ | _ | _ | _ | _ | _ | _ | _ | j <;> first | exact hc | exact absurd rfl hj | exact IMap.mono hc hn | exact SetIs.mono hc hn) hw (fun k hk => .inl hk) rfl
theorem MAt.setSerial (h : MAt w X M) {n : Nat} {f : Int -> Option Int} (hw : IMap .i64 3 w' X.se n f) (hn : M.cnt <= n) (hk : Kept (fun k => k = X.se) w w') : Step w X M w' X { M with serial := f,cnt := n } :=
 h.upd 6 hk (fun j hj => by rcases j with _ | _ | _ | _ | _ | _ | _ | _ | _ | _ | _ | j <;> first | rfl | exact absurd rfl hj)
  (fun j hj hc => by rcases j with _ | _ | _ | _ | _ | _ | _ | _ | _ | _ | _ | j <;> first | exact hc | exact absurd rfl hj | exact IMap.mono hc hn | exact SetIs.mono hc hn) hw (fun k hk => .inl hk) rfl
theorem MAt.setJoins (h : MAt w X M) {n : Nat} {f : Int -> Bool} (hw : SetIs w' X.jo n f) (hn : M.cnt <= n) (hk : Kept (fun k => k = X.jo) w w') : Step w X M w' X { M with joins := f,cnt := n } :=
 h.upd 7 hk (fun j hj => by rcases j with _ | _ | _ | _ | _ | _ | _ | _ | _ | _ | _ | j <;> first | rfl | exact absurd rfl hj)
  (fun j hj hc => by rcases j with _ | _ | _ | _ | _ | _ | _ | _ | _ | _ | _ | j <;> first | exact hc | exact absurd rfl hj | exact IMap.mono hc hn | exact SetIs.mono hc hn) hw (fun k hk => .inl hk) rfl
theorem MAt.setLeaves (h : MAt w X M) {n : Nat} {f : Int -> Bool} (hw : SetIs w' X.le n f) (hn : M.cnt <= n) (hk : Kept (fun k => k = X.le) w w') : Step w X M w' X { M with leaves := f,cnt := n } :=
 h.upd 8 hk (fun j hj => by rcases j with _ | _ | _ | _ | _ | _ | _ | _ | _ | _ | _ | j <;> first | rfl | exact absurd rfl hj)
  (fun j hj hc => by rcases j with _ | _ | _ | _ | _ | _ | _ | _ | _ | _ | _ | j <;> first | exact hc | exact absurd rfl hj | exact IMap.mono hc hn | exact SetIs.mono hc hn) hw (fun k hk => .inl hk) rfl
theorem MAt.setLost (h : MAt w X M) {n : Nat} {f : Int -> Bool} (hw : SetIs w' X.lo n f) (hn : M.cnt <= n) (hk : Kept (fun k => k = X.lo) w w') : Step w X M w' X { M with lost := f,cnt := n } :=
 h.upd 9 hk (fun j hj => by rcases j with _ | _ | _ | _ | _ | _ | _ | _ | _ | _ | _ | j <;> first | rfl | exact absurd rfl hj)
  (fun j hj hc => by rcases j with _ | _ | _ | _ | _ | _ | _ | _ | _ | _ | _ | j <;> first | exact hc | exact absurd rfl hj | exact IMap.mono hc hn | exact SetIs.mono hc hn) hw (fun k hk => .inl hk) rfl
theorem MAt.setSt (h : MAt w X M) {FS' : Nat -> Prop} {s' : StR} (hst : StAt w' X.sb FS' s') (hg : Grows w X.FS FS') (hk : Kept X.FS w w') : Step w X M w' { X with FS := FS' } { M with st := s' } :=
 h.upd 2 hk (fun j hj => by rcases j with _ | _ | _ | _ | _ | _ | _ | _ | _ | _ | _ | j <;> first | rfl | exact absurd rfl hj)
  (fun j hj hc => by rcases j with _ | _ | _ | _ | _ | _ | _ | _ | _ | _ | _ | j <;> first | exact hc | exact absurd rfl hj) hst (fun k hk => hg k hk) rfl
theorem MAt.setWat (h : MAt w X M) {ns : List Int} {t : Int} (hw : WtAt w' X.wb ns t) (hk : Kept (fun k => k = X.wb) w w') : Step w X M w' X { M with ns := ns,tk := t } :=
 h.upd 4 hk (fun j hj => by rcases j with _ | _ | _ | _ | _ | _ | _ | _ | _ | _ | _ | j <;> first | rfl | exact absurd rfl hj)
  (fun j hj hc => by rcases j with _ | _ | _ | _ | _ | _ | _ | _ | _ | _ | _ | j <;> first | exact hc | exact absurd rfl hj) hw (fun k hk => .inl hk) rfl
end
end Mas
namespace Pt
open Disk Fr Vn Ops Wl
def Hd : St -> Prop
 | [] => False
 | [f] => f.ts ≠ []
 | _ :: g :: R => Hd (g :: R)
theorem Hd.cons {f : FileT} {R : St} (h : Hd R) : Hd (f :: R) := by
 cases R with
 | nil => exact h.elim
 | cons g R => exact h
theorem hd_app {R : St} (h : R = [] \/ Hd R) (t : List UInt8) : Hd (app R t) := by
 cases R with
 | nil => show ([t] : List (List UInt8)) ≠ [];simp
 | cons f R =>
  have h : Hd (f :: R) := by rcases h with h | h;cases h;exact h
  by_cases hf : full f
  ·rw [app_full hf];exact h.cons
  ·rw [app_not hf]
   cases R with
   | nil => show f.ts ++ [t] ≠ [];simp
   | cons g R => exact h
theorem hd_cur : ∀ {T : List (List UInt8)} {R : St},Hd R -> Hd (cur R T)
 | [],_,h => h
 | t :: T,R,h => by rw [cur_cons];exact hd_cur (hd_app (.inr h) t)
theorem hd_new (t : List UInt8) (T : List (List UInt8)) : Hd (cur [] (t :: T)) := by rw [cur_cons];exact hd_cur (hd_app (.inl rfl) t)
theorem Hd.texts : ∀ {R : St},Hd R -> Wl.texts R ≠ []
 | [],h => h.elim
 | [f],h => by
  have h2 : f.ts ≠ [] := h
  show [] ++ f.ts ≠ []
  simpa using h2
 | f :: g :: R,h => by
  have := Hd.texts (R := g :: R) h
  show Wl.texts (g :: R) ++ f.ts ≠ []
  simp [this]
section
variable {first : Int} {R : St} {m : Disk.Safe} {k : Nat} {l : List ByteArray}
theorem Hd.len {R : St} (h : Hd R) : 0 < R.length := by
 cases R with
 | nil => exact h.elim
 | cons f R => simp
end
end Pt
namespace Pt
open Disk Fr Vn Ops Wl
def total (fs : List FileT) : Nat := (fs.map fun f => (byF f).length).sum
end Pt
namespace Pt
open Disk Fr Vn Ops Wl
structure PAct where
 k : Int
 s : ByteArray
 A : Option Addr
 c : Nat
 l : List ByteArray
 n : Int
instance : Inhabited PAct := ⟨⟨0,⟨#[]⟩,none,0,[],0⟩⟩
end Pt
section
open Go.WideShapes Go.ChangeShapes
variable {H : Type} {enc : TypeId × Value -> H} {W : World} {v : Value} {d : DataW H} {ps : List MemPlace} {r : Reach} {b0 : Nat}
end
namespace Pt
open Disk Fr Vn Ops Wl
def szN (d : Nat -> Nat) : Nat -> Nat
 | 0 => 0
 | i + 1 => szN d i + d i
theorem szN_le {d : Nat -> Nat} {b : Nat} (h : ∀ i,d i <= b) : ∀ k,szN d k <= k * b
 | 0 => Nat.zero_le _
 | k + 1 => by have := szN_le h k;have := h k;show szN d k + d k <= _;rw [Nat.succ_mul];omega
section
variable {w : World} {B gp gw g n c : Nat} {F : Nat -> Prop} {m : Disk.Safe} {ps : List Disk.Pc} {ser boot first : Int} {R : St} {T : List (List UInt8)} {A : Option Addr} {l : List ByteArray}
theorem psize_any (h : PtAt w B gp gw g F n m ps ser boot first R T A c l) (hf : Fits n m ps) (hK : (cur R T).length <= 100000) (h2 : first <= 1073741824) :
  Calls Tryz.prog 112 #[.pointer (some ⟨gp,0,none⟩)] w fun e w' => e = .returned (.int .i64 (szN (fun j => (dataOf m ps (first + j)).size) (cur R T).length : Nat)) /\ Kept NoF w w' := by
 have hno := pnone_any h.p
 have hfi := files_any h.d hf.i64 hf.n (by have := hf.len;omega)
 have hif := h.low.isFile h.log
 have hf1 := h.f1
 have hsb : ∀ j : Nat,(dataOf m ps (first + j)).size <= 66000 := fun j => by rw [(h.log.file j).2,ofL_sz];exact bts_le (cur_ok h.log.ok h.log.T) j
 have hda := fun (x : Int) (hx : 0 <= x /\ x <= 2305843009213693952) (W : World) (hW : Kept NoF w W) => data_any (h.d.kept hW (fun _ _ z => z)) x (i64_small hx.1 (by omega)) (by have := hf.len;omega) (by have := hf.file x;have := hf.total;omega)
 obtain ⟨d,hd⟩ : ∃ d : Nat -> Nat,(fun j : Nat => (dataOf m ps (first + j)).size) = d := ⟨_,rfl⟩
 have hdj : ∀ j : Nat,(dataOf m ps (first + j)).size = d j := fun j => by rw [<- hd]
 have hdb : ∀ j,d j <= 66000 := fun j => by rw [<- hdj j];exact hsb j
 have hsz := szN_le hdb
 obtain ⟨K,hKe⟩ : ∃ K,(cur R T).length = K := ⟨_,rfl⟩
 rw [hKe] at hif hK ⊢
 rw [hd]
 have hp := h.p
 have c1 : w.cell? ⟨gp,1,none⟩ = some (.pointer (some ⟨g,0,none⟩)) := hp.cell 1
 have HNO := hZ0 hno;have HFI := hZ0 hfi;have HIF := hZ0 hif;have HDA := hZ0 hda;have HDJ := hZ0 hdj;have HDB := hZ0 hdb;have HSZ := hZ0 hsz;have HP := hZ0 hp
 clear hno hfi hif hda hdj hdb hsz h hf hsb hd hp hKe
 go_enter Tryz.func112,Tryz.ntmps112
 go_wp2_with fail
 refine HNO.out.mono ?_
 rintro e w' ⟨rfl,rfl⟩
 go_wp2_with fail
 refine HFI.out.mono ?_
 rintro e w1 ⟨fl,A1,c1',rfl,hfa,hown,-,hk1⟩
 have hfl := files_nums hfa HIF.out (by omega) (by omega)
 have hlen : fl.length = K := by rw [hfl];simp [nums]
 have hsrc := Src.of_own hown
 rw [hlen] at hsrc ⊢
 have hget : ∀ i : Nat,i < K -> fl[i]? = some (first + i) := by
  intro i hi
  rw [hfl]
  unfold nums
  rw [List.getElem?_map,List.getElem?_range hi]
  rfl
 have HSRC := hZ0 hsrc;have HGET := hZ0 hget;have HK1 := hZ0 hk1
 clear hfa hown hk1 hfl hlen hsrc hget c1
 go_wp2_with fail
 go_loopw [3,14] (fun v3 v14 wr => ∃ i : Nat,i <= K /\ v14 = .int .i64 i /\ v3 = .int .i64 (szN d i : Nat) /\ Kept NoF w1 wr) (fun _ v14 _ => K - (intOf v14).toNat)
 case atStart => exact ⟨0,Nat.zero_le _,rfl,rfl,Kept.refl _ _⟩
 case round =>
  obtain ⟨i,hi,rfl,rfl,hk⟩ := hrel
  by_cases hil : i < K
  ·have hx := HGET.out i hil
   obtain ⟨ad,rfl,-,e0⟩ := SlI.ints_cells (HSRC.out.kept hk (fun _ _ z => z)) (by omega) i _ hx
   obtain ⟨x,hxe⟩ : ∃ x,first + (i : Int) = x := ⟨_,rfl⟩
   rw [hxe] at e0 hx
   have hpr := (HP.out.kept HK1.out (fun z => z)).kept hk (fun z => z)
   have d1 : wr.cell? ⟨gp,1,none⟩ = some (.pointer (some ⟨g,0,none⟩)) := hpr.cell 1
   have d2 : wr.cell? ⟨gp,2,none⟩ = some (.int .i64 first) := hpr.cell 2
   have q1 : first <= x := by omega
   have hda := HDA.out x ⟨by omega,by omega⟩ wr (HK1.out.then hk)
   obtain ⟨D,hD⟩ : ∃ D,dataOf m ps x = D := ⟨_,rfl⟩
   have hDs : D.size = d i := by rw [<- hD,<- hxe];exact HDJ.out i
   rw [hD] at hda
   have hb1 := HSZ.out i
   have hb2 := HDB.out i
   have hst : szN d (i + 1) = szN d i + D.size := by rw [hDs];rfl
   have hq : szN d i <= 6600000000 := by omega
   have hq2 : D.size <= 66000 := by omega
   obtain ⟨z,hz⟩ : ∃ z,szN d i = z := ⟨_,rfl⟩
   rw [hz] at hst hq ⊢
   have HD := hZ0 hda;have HST := hZ0 hst;have HK := hZ0 hk
   clear hk hx hpr hda hD hDs hb1 hb2 hst hz hxe
   go_wp2_with fail
   refine HD.out.mono ?_
   rintro e w3 ⟨rfl,hk3⟩
   have HK3 := hZ0 (HK.out.then hk3)
   clear hk3
   go_wp2
   go_roundw
   case rel => exact ⟨i + 1,by omega,by go_num,by rw [HST.out];go_num,HK3.out⟩
   case measure => simp [intOf];omega
  ·obtain rfl : i = K := by omega
   have HK := hZ0 (HK1.out.then hk)
   clear hk
   go_wp2
   go_ret
   exact ⟨rfl,HK.out⟩
end
end Pt
namespace Pt
open Disk Fr Vn Ops Wl
section
variable {w : World} {B gp gw g n c : Nat} {F : Nat -> Prop} {m : Disk.Safe} {ps : List Disk.Pc} {ser boot first : Int} {R : St} {T : List (List UInt8)} {A : Option Addr} {l : List ByteArray}
def PAppPost2 (w : World) (B gp gw g : Nat) (F : Nat -> Prop) (n : Nat) (m : Disk.Safe) (ps : List Disk.Pc) (ser boot first : Int) (R : St) (T : List (List UInt8)) (A : Option Addr) (c : Nat) (l : List ByteArray) (s : ByteArray) (e : Ending) (w' : World) : Prop :=
 e = .returned (.int .i64 0) /\ ∃ F' A' c',PtAt w' B gp gw g F' n m (ps ++ [(first + lastOf (cur R T),ofL (frameL (84 :: bl s)))]) ser boot first R (T ++ [84 :: bl s]) A' c' (l ++ [s]) /\ Kept (PF gp gw F A l.length c) w w' /\ (∀ k,F' k -> F k \/ w.heap.size <= k) /\ (∀ k,(Value.slice A' (l ++ [s]).length c').ownBlock = some k -> (Value.slice A l.length c).ownBlock = some k \/ w.heap.size <= k)
theorem papp2_any (h : PtAt w B gp gw g F n m ps ser boot first R T A c l) (hf : Fits n m ps) (hB : B <= w.heap.size) (h2 : first + lastOf (cur R T) <= 1073741824) (hl : l.length <= 1000000) (s : ByteArray) (hs : s.size < 65536) :
  Calls Tryz.prog 109 #[.pointer (some ⟨gp,0,none⟩),.string s] w (PAppPost2 w B gp gw g F n m ps ser boot first R T A c l s) := by
 have hno := pnone_any h.p
 have hlo := fun W => long_any W s false (decide_eq_false (by omega))
 have hap := lappend_any h.d h.wl h.log hf h.f1 h2 (ofL (84 :: bl s)) (by rw [ofL_sz];simp [size_bl];omega)
 rw [bl_ofL] at hap
 have c0 : w.cell? ⟨gp,0,none⟩ = some (.pointer (some ⟨gw,0,none⟩)) := h.p.cell 0
 have q1 : ¬ 9223372036854775807 < (⟨#[84]⟩ : ByteArray).size + s.size := by show ¬ _ < 1 + _;omega
 have H := hZ0 h;have HNO := hZ0 hno;have HLO := hZ0 hlo;have HAP := hZ0 hap;have HF := hZ0 hf
 have hM : l.length + 1 <= maxLen := by unfold maxLen;omega
 have hY : (l.length + 1) * 16 <= 140737488355328 := by omega
 have HMX := hZ0 hM;have HY := hZ0 hY
 clear h hno hlo hap hf hM hY
 go_enter Tryz.func109,Tryz.ntmps109
 go_wp2_with fail
 refine HNO.out.mono ?_
 rintro e w' ⟨rfl,rfl⟩
 go_wp2_with fail
 refine (HLO.out _).mono ?_
 rintro e w' ⟨rfl,rfl⟩
 go_wp2_with fail
 rw [cat84]
 refine HAP.out.mono ?_
 rintro e w3 ⟨rfl,F3,hd3,hG3,hw3,hk3⟩
 have hp3 := H.out.p.kept hk3 (fun hh => by rcases hh with hh | hh;exact H.out.gp_not.1 hh;exact H.out.gp_not.2.2 hh)
 have hr3 := own_kept H.out.row.1 hk3 (fun k hk hh => by rcases hh with hh | hh;exact (H.out.row_not hk).1 hh;exact (H.out.row_not hk).2.2 hh)
 have d3 : w3.cell? ⟨gp,3,none⟩ = some (.slice A l.length c) := hp3.cell 3
 have f3 := hp3.frozen 3
 have hgl := hp3.lt
 have HD3 := hZ0 hd3;have HG3 := hZ0 hG3;have HW3 := hZ0 hw3;have HK3 := hZ0 hk3;have HP3 := hZ0 hp3;have HR3 := hZ0 hr3
 have HOW := hZ0 (own_kept hr3 (F := NoF) ((Kept.refl _ w3).alloc (.cells #[.string s] 9)) (fun _ _ z => z))
 clear hd3 hG3 hw3 hk3 hp3 hr3 q1 c0
 go_wp2_with (at_builtin;refine list_append_src elemStr (.tmp 26) (.tmp 28) rfl rfl (Value.slice A l.length c) rfl HOW.out 1 rfl (Src.of_has (m := 1) (Has.new w3 9 #[.string s]) rfl) (one_str _) HMX.out HY.out ?_;intro A9 c9 w9 ho9 hg9 ha9;have hkr : Kept (fun k => (Value.slice A l.length c).ownBlock = some k) w3 w9 := Kept.grown ((Kept.refl _ w3).alloc _) hg9 (fun k hk => .inl hk);have hp9 := HP3.out.kept hkr (fun hk => (H.out.row_not hk).2.1 rfl);have d9 := hp9.cell 3;have f9 := hp9.frozen 3;have HO9 := hZ0 ho9;have HA9 := hZ0 ha9;have HKR := hZ0 hkr;have HP9 := hZ0 hp9;clear ho9 hg9 ha9 hkr hp9)
 go_ret
 have hkS : Kept (fun k => k = gp) w9 (w9.setCell ⟨gp,3,none⟩ (.slice A9 (l.length + 1) c9)) := (Kept.refl _ w9).put (.inl rfl)
 have hlen : (l ++ [s]).length = l.length + 1 := by simp
 have hF3 : ∀ k,F3 k -> ∀ t cs,Has w3 k t cs -> t ≠ 104 -> t ≠ 118 -> False := fun k hk t cs hh e1 e2 => DiskAt.not HD3.out hh e1 e2 hk
 have hdr : ∀ k,F3 k -> ¬ (Value.slice A l.length c).ownBlock = some k := fun k hk hb => by
  obtain ⟨cs,hh⟩ := own_has HR3.out hb
  exact hF3 k hk _ _ hh (by decide) (by decide)
 have hd9 := HD3.out.kept HKR.out hdr
 have hp9' := HP9.out.put 3 (.slice A9 (l.length + 1) c9)
 have hw9 := HW3.out.kept HKR.out (fun hk => by
  obtain ⟨cs,hh⟩ := own_has HR3.out hk
  exact Has.ne hh HW3.out (by decide) rfl)
 refine ⟨rfl,F3,A9,c9,⟨hd9.kept hkS (fun k hk e => hF3 k hk _ _ (e ▸ HP3.out) (by decide) (by decide)),?_,hw9.kept hkS (fun e => H.out.gp_not.2.2 e.symm),⟨?_,?_⟩,H.out.log.append (by simp [size_bl];omega),H.out.low.append (by omega),H.out.f1,?_,?_⟩,?_,fun k hk => HG3.out k hk,?_⟩
 ·rw [hlen];exact hp9'
 ·rw [hlen,List.map_append]
  exact own_kept HO9.out hkS (fun k hk e => by
   obtain ⟨cs,hh⟩ := own_has HO9.out hk
   exact Has.ne hh (e ▸ HP9.out) (by decide) rfl)
 ·intro k hk
  rw [hlen] at hk
  rcases HA9.out with e | e
  ·exact H.out.row.2 k (e.symm.trans hk)
  ·have h9 := e.symm.trans hk
   injection h9 with h9
   have := HK3.out.size
   simp at h9
   omega
 ·obtain ⟨k,h3,h4⟩ := H.out.tx
  exact ⟨k,by rw [ptx_snoc,<- h3,List.append_assoc],h4⟩
 ·intro x hx
  rcases List.mem_append.1 hx with hx | hx
  ·exact H.out.hs x hx
  ·simp at hx;subst hx;exact hs
 ·refine (((HK3.out.mono (fun k hk => ?_)).then (HKR.out.mono (fun k hk => ?_)))).then (hkS.mono (fun k hk => ?_))
  ·rcases hk with hk | hk
   ·exact .inl hk
   ·exact .inr (.inr (.inl hk))
  ·exact .inr (.inr (.inr hk))
  ·exact .inr (.inl hk)
 ·intro k hk
  rw [hlen] at hk
  rcases HA9.out with e | e
  ·exact .inl (e.symm.trans hk)
  ·have h9 := e.symm.trans hk
   injection h9 with h9
   have := HK3.out.size
   simp at h9
   exact .inr (by omega)
def DSyncPost (w : World) (B gp gw g : Nat) (F : Nat -> Prop) (n : Nat) (m : Disk.Safe) (ps : List Disk.Pc) (ser boot first : Int) (R : St) (T : List (List UInt8)) (A : Option Addr) (c : Nat) (l : List ByteArray) (e : Ending) (w' : World) : Prop :=
 (∃ k : Int,e = .returned (.int .i64 k)) /\ PtAt w' B gp gw g F (n + ps.length) (syncM m ps) [] ser boot first (cur R T) [] A c l /\ Kept F w w'
theorem dsync_any (h : PtAt w B gp gw g F n m ps ser boot first R T A c l) (hf : Fits n m ps) : Calls Tryz.prog 111 #[.pointer (some ⟨g,0,none⟩)] w (DSyncPost w B gp gw g F n m ps ser boot first R T A c l) := by
 have htt := hf.total
 refine (sync_any h.d hf.i64 (by have := hf.len;omega) (by have := hf.n;omega) 100000 hf.file (by omega)).mono ?_
 rintro e w' ⟨rfl,h1,h2⟩
 refine ⟨⟨_,rfl⟩,⟨h1,h.p.kept h2 h.gp_not.1,h.wl.kept h2 h.gp_not.2.1,⟨own_kept h.row.1 h2 (fun k hk => (h.row_not hk).1),h.row.2⟩,h.log.sync,h.low.sync,h.f1,?_,h.hs⟩,h2⟩
 obtain ⟨k,h3,h4⟩ := h.tx
 refine ⟨k,by rw [cur_texts,List.append_nil,h3],?_⟩
 rw [cur_texts,List.length_append]
 omega
end
end Pt
end Go.Proofs.YtolkgbafebehfaaGreat

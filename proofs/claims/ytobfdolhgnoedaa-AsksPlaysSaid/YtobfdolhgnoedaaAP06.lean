/- Part 7 of what the proof needs. -/
import Derived.Test.YtobfdolhgnoedaaAP00
import Derived.Test.YtobfdolhgnoedaaAP01
import Derived.Test.YtobfdolhgnoedaaAP04
import Derived.Test.YtobfdolhgnoedaaAP05
import Derived.StillTailTactics
import Derived.Shelf.Abstract
import Derived.Test.YtobfdolhgnoedaaChecked
import Derived.Shelf.Sort.Plain
import Derived.Shelf.Slices.In.SortNone
import Derived.Sort.OwnSorted
import Derived.Sort.KeysCollected
import Derived.Sort.OwnSortedInts
import Derived.Lib.AppendZerosOnto
import Derived.Lib.Walk
import Derived.Maps.OwnSet
import Derived.Maps.Views
import Derived.Test.YtobfdolhgnoedaaRows
import Derived.ProofKit
import Derived.OpenShut
import Derived.Lib.SmallJoins
set_option linter.unusedSimpArgs false
set_option linter.unusedVariables false
set_option maxHeartbeats 32000000
set_option maxRecDepth 100000
namespace Go.Proofs.Ytobfdolhgnoedaa
open Go.RowKit Go.Shelf
set_option maxRecDepth 100000
namespace Plan
def Tells (w : World) (g : Nat) (lb : Array Value) (l : List Mem) (p : Mem -> Bool) : Prop :=
 ∀ W m,Kept NoF w W -> m ∈ l -> Calls Try.prog g (#[magg m] ++ lb) W fun e w' => e = .returned (.bool (p m)) /\ Kept NoF W w'
theorem Tells.kept {w w' : World} {g : Nat} {lb : Array Value} {l : List Mem} {p : Mem -> Bool} (h : Tells w g lb l p) (hk : Kept NoF w w') : Tells w' g lb l p := fun W m hW hm => h W m (hk.then hW) hm
end Plan
end Go.Proofs.Ytobfdolhgnoedaa
namespace Go.Proofs.Ytobfdolhgnoedaa
open Go.RowKit Go.Shelf Go.Maps
set_option maxRecDepth 100000
namespace Plan
def I64 (k : Int) : Prop := (Lit.int .i64 k).wf = true
def SetIs (w : World) (b n : Nat) (s : Int -> Bool) : Prop :=
 ∃ D : DataW Unit,w.ownsMap Try.prog 3 (plainElem Try.prog 4) b n D /\ ∀ k,I64 k -> D.atKey (.int .i64 k) (.lit (.bool false)) = .lit (.bool (s k))
theorem SetIs.lt {w : World} {b n : Nat} {s : Int -> Bool} (h : SetIs w b n s) : b < w.heap.size := by
 obtain ⟨D,h,_⟩ := h
 exact h.lt
theorem SetIs.kept {F : Nat -> Prop} {w w' : World} {b n : Nat} {s : Int -> Bool} (h : SetIs w b n s) (hk : Kept F w w') (hf : ¬ F b) : SetIs w' b n s := by
 obtain ⟨D,ho,hD⟩ := h
 have hlt := ho.lt
 obtain ⟨es,clock,hb,hF,hs,e⟩ := ho
 exact ⟨D,⟨es,clock,(hk.block b hlt hf).trans hb,hF,hs,e⟩,hD⟩
theorem SetIs.ne {w : World} {b n g : Nat} {s : Int -> Bool} {t : TypeId} {cs : Array Value} (h : SetIs w b n s) (hg : Has w g t cs) : b ≠ g := by
 rintro rfl
 obtain ⟨D,⟨es,clock,hb,_⟩,_⟩ := h
 unfold Has at hg
 rw [hg] at hb
 cases hb
end Plan
end Go.Proofs.Ytobfdolhgnoedaa
namespace Go.Proofs.Ytobfdolhgnoedaa
open Go.RowKit Go.WideShapes Go.ChangeShapes
set_option maxRecDepth 100000
namespace MO
open Plan Ops Ent Msg
structure MGood (w : World) (x : MsgR) : Prop where
 m : Src w 2 x.mA x.ms.length (mcells x.ms)
 mc : x.ms.length <= x.mc
 o : Src w 3 x.oA x.ops.length (cells x.ops)
 e : Src w 4 x.eA x.es.length (ecells x.es)
 eo : ∀ y ∈ x.es,Src w 3 y.A y.ops.length (cells y.ops) /\ 0 <= y.ts /\ y.ts <= maxTs
 s : Src w 1 x.sA x.ss.length (u64s x.ss)
 so : ∀ y ∈ x.ss,0 <= y /\ y <= maxTs
 p : Src w 2 x.pA x.ps.length (Ops.pcells x.ps)
 t : (0 <= x.at' /\ x.at' <= maxTs) /\ (0 <= x.last /\ x.last <= maxTs) /\ (0 <= x.cfl /\ x.cfl <= maxTs)
 i : I64 x.ser
 pk : ∀ y ∈ x.ps,y.key.size <= maxLen /\ y.val.size <= maxLen
 pcap : x.ps.length <= x.pc /\ x.pc <= maxLen
 kt : x.key.size <= maxLen /\ x.to.size <= maxLen
 is : I64 x.n /\ I64 x.req /\ I64 x.e /\ I64 x.ep
 lens : x.ms.length <= maxLen /\ x.ops.length <= maxLen /\ x.es.length <= maxLen /\ x.ss.length <= maxLen /\ x.ps.length <= maxLen
theorem MGood.kept {w w' : World} {x : MsgR} (h : MGood w x) (hk : Kept NoF w w') : MGood w' x :=
 ⟨h.m.kept hk (fun _ _ z => z),h.mc,h.o.kept hk (fun _ _ z => z),h.e.kept hk (fun _ _ z => z),(fun y hy => ⟨(h.eo y hy).1.kept hk (fun _ _ z => z),(h.eo y hy).2⟩),h.s.kept hk (fun _ _ z => z),h.so,h.p.kept hk (fun _ _ z => z),h.t,h.i,h.pk,h.pcap,h.kt,h.is,h.lens⟩
theorem MGood.ok {w : World} {x : MsgR} (h : MGood w x) (h1 : x.ms.length <= 20) (h3 : x.es.length <= 20) (h4 : x.ss.length <= 20) (h5 : x.ps.length <= 40) : XOk w x :=
 ⟨h.m,h.mc,by omega,h.o,h.e,h.eo,by omega,h.s,by omega,h.so,h.p,by omega,h.t⟩
theorem trod_fld {H : Type} {enc : TypeId × Value -> H} {P : Program} {w : World} {base : Nat} {spare : Nat -> Bool} {held : Bool} {t : TypeId} {fs : Array Field} {fuel : Nat} {cs : List Value} {x : DataW H × List MemPlace}
  (ht : P.underlying t = some (.struct fs)) (h : DataW.trod enc P w base spare held fuel t cs = some x) :
  cs.length = P.cellsOf t /\ ∃ n,∀ (i : Nat) (f : Field),fs[i]? = some f -> ∃ y,DataW.trod enc P w base spare held n f.type ((cs.drop f.offset).take (P.cellsOf f.type)) = some y := by
 obtain ⟨xs,n,_,rfl,hl,hlen,hf⟩ := DataW.trod_struct ht h
 refine ⟨hl,n,fun i f hi => ?_⟩
 have h1 := hf i f hi
 have h2 : i < xs.length := by rw [hlen];exact (Array.getElem?_eq_some_iff.1 hi).1
 exact ⟨xs[i],h1.trans (List.getElem?_eq_getElem h2)⟩
section
variable {H : Type} {enc : TypeId × Value -> H} {W : World} {v : Value} {d : DataW H} {ps : List MemPlace} {r : Reach} {b0 : Nat}
theorem u64r {x : Int} (h : (Lit.int .u64 x).wf = true) : 0 <= x /\ x <= maxTs := by
 unfold maxTs
 simpa [Lit.wf,IntKind.min,IntKind.max,IntKind.signed,IntKind.bits] using h
theorem slice_of {t e : TypeId} {fuel : Nat} {c0 : Value} {y : DataW H × List MemPlace} (ht : Try.prog.underlying t = some (.slice e)) (h : DataW.trod enc Try.prog W 0 (fun _ => true) true fuel t [c0] = some y) :
  (∃ A n c,c0 = .slice A n c) /\ DataW.Trod enc Try.prog W 0 (fun _ => true) true t c0 y.1 y.2 := by
 have hv1 : ∃ A n c,c0 = .slice A n c := by
  rcases Deep.open_slice ht h with ⟨e,_⟩ | ⟨a,len,cap,_,_,_,_,e,_⟩
  ·simp at e;exact ⟨_,_,_,e⟩
  ·simp at e;exact ⟨_,_,_,e⟩
 refine ⟨hv1,?_⟩
 obtain ⟨A,k',c,rfl⟩ := hv1
 exact ⟨fuel,h⟩
theorem mo_mems (hv : ∃ A n c,v = .slice A n c) (h : DataW.Trod enc Try.prog W 0 (fun _ => true) true 24 v d ps) :
  ∃ (A : Option Addr) (c : Nat) (l : List Mem),v = .slice A l.length c /\ l.length <= c /\ c <= maxLen /\ Src W 2 A l.length (mcells l) /\ (∀ m ∈ l,I64 m.1) := by
 obtain ⟨A,c,l,h1,h2,h3,h4,h5,_⟩ := open_rows (α := Mem) mcell (fun m => I64 m.1) 2 Try.underlying24 (by kernel_rfl) (by decide) (fun _ => rfl)
  (fun fuel cs y hy => by
   obtain ⟨hl,n,hf⟩ := trod_fld Try.underlying111 hy
   have hC : Try.prog.cellsOf 111 = 2 := by kernel_rfl
   rw [hC] at hl
   match cs,hl with
   | [c0,c1],_ =>
    have e3 : Try.prog.cellsOf 3 = 1 := by kernel_rfl
    obtain ⟨_,h0⟩ := hf 0 _ rfl
    obtain ⟨_,h1⟩ := hf 1 _ rfl
    obtain ⟨x0,hx0,_,m0⟩ := DataW.trod_int Try.underlying3 h0
    obtain ⟨x1,hx1,_,_⟩ := DataW.trod_int Try.underlying3 h1
    simp [e3] at hx0 hx1
    subst hx0
    subst hx1
    exact ⟨(x0,x1),rfl,m0⟩) h hv
 exact ⟨A,c,l,h1,h2,h3,h4,h5⟩
theorem mo_ops (hv : ∃ A n c,v = .slice A n c) (h : DataW.Trod enc Try.prog W 0 (fun _ => true) true 27 v d ps) :
  ∃ (A : Option Addr) (c : Nat) (l : List OpR),v = .slice A l.length c /\ l.length <= c /\ c <= maxLen /\ Src W 3 A l.length (Ops.cells l) := by
 have _ : Inhabited OpR := ⟨⟨⟨#[]⟩,⟨#[]⟩,false⟩⟩
 obtain ⟨A,c,l,h1,h2,h3,h4,h5,_⟩ := open_rows (α := OpR) Ops.cell (fun o => True) 3 Try.underlying27 (by kernel_rfl) (by decide) (fun _ => rfl)
  (fun fuel cs y hy => by
   obtain ⟨hl,n,hf⟩ := trod_fld Try.underlying70 hy
   have hC : Try.prog.cellsOf 70 = 3 := by kernel_rfl
   rw [hC] at hl
   match cs,hl with
   | [c0,c1,c2],_ =>
    have e9 : Try.prog.cellsOf 9 = 1 := by kernel_rfl
    have e4 : Try.prog.cellsOf 4 = 1 := by kernel_rfl
    obtain ⟨_,h0⟩ := hf 0 _ rfl
    obtain ⟨_,h1⟩ := hf 1 _ rfl
    obtain ⟨_,h2⟩ := hf 2 _ rfl
    obtain ⟨x0,hx0,_,m0⟩ := DataW.trod_string Try.underlying9 h0
    obtain ⟨x1,hx1,_,m1⟩ := DataW.trod_string Try.underlying9 h1
    obtain ⟨x2,hx2,_⟩ := DataW.trod_bool Try.underlying4 h2
    simp [e9] at hx0 hx1
    simp [e9,e4] at hx2
    subst hx0
    subst hx1
    subst hx2
    exact ⟨⟨x0,x1,x2⟩,rfl,trivial⟩) h hv
 exact ⟨A,c,l,h1,h2,h3,h4⟩
theorem mo_pairs (hv : ∃ A n c,v = .slice A n c) (h : DataW.Trod enc Try.prog W 0 (fun _ => true) true 32 v d ps) :
  ∃ (A : Option Addr) (c : Nat) (l : List PairR),v = .slice A l.length c /\ l.length <= c /\ c <= maxLen /\ Src W 2 A l.length (Ops.pcells l) /\ (∀ y ∈ l,y.key.size <= maxLen /\ y.val.size <= maxLen) := by
 have _ : Inhabited PairR := ⟨⟨⟨#[]⟩,⟨#[]⟩⟩⟩
 obtain ⟨A,c,l,h1,h2,h3,h4,h5,_⟩ := open_rows (α := PairR) Ops.pcell (fun o => o.key.size <= maxLen /\ o.val.size <= maxLen) 2 Try.underlying32 (by kernel_rfl) (by decide) (fun _ => rfl)
  (fun fuel cs y hy => by
   obtain ⟨hl,n,hf⟩ := trod_fld Try.underlying68 hy
   have hC : Try.prog.cellsOf 68 = 2 := by kernel_rfl
   rw [hC] at hl
   match cs,hl with
   | [c0,c1],_ =>
    have e9 : Try.prog.cellsOf 9 = 1 := by kernel_rfl
    obtain ⟨_,h0⟩ := hf 0 _ rfl
    obtain ⟨_,h1⟩ := hf 1 _ rfl
    obtain ⟨x0,hx0,_,m0⟩ := DataW.trod_string Try.underlying9 h0
    obtain ⟨x1,hx1,_,m1⟩ := DataW.trod_string Try.underlying9 h1
    simp [e9] at hx0 hx1
    subst hx0
    subst hx1
    exact ⟨⟨x0,x1⟩,rfl,m0,m1⟩) h hv
 exact ⟨A,c,l,h1,h2,h3,h4,h5⟩
theorem mo_u64s (hv : ∃ A n c,v = .slice A n c) (h : DataW.Trod enc Try.prog W 0 (fun _ => true) true 31 v d ps) :
  ∃ (A : Option Addr) (c : Nat) (l : List Int),v = .slice A l.length c /\ l.length <= c /\ c <= maxLen /\ Src W 1 A l.length (u64s l) /\ (∀ x ∈ l,0 <= x /\ x <= maxTs) := by
 obtain ⟨A,c,l,h1,h2,h3,h4,h5,_⟩ := open_rows (α := Int) (fun x => [.int .u64 x]) (fun x => 0 <= x /\ x <= maxTs) 1 Try.underlying31 (by kernel_rfl) (by decide) (fun _ => rfl)
  (fun fuel cs y hy => by
   obtain ⟨x,hx,_,hw⟩ := DataW.trod_int Try.underlying22 hy
   exact ⟨x,hx,u64r hw⟩) h hv
 have hf : ∀ l : List Int,l.flatMap (fun x => [Value.int .u64 x]) = u64s l := by
  intro l
  induction l with
  | nil => rfl
  | cons a l ih => rw [List.flatMap_cons,ih];rfl
 rw [hf] at h4
 exact ⟨A,c,l,h1,h2,h3,h4,h5⟩
theorem mo_ents (hv : ∃ A n c,v = .slice A n c) (h : DataW.Trod enc Try.prog W 0 (fun _ => true) true 30 v d ps) :
  ∃ (A : Option Addr) (c : Nat) (l : List EntR),v = .slice A l.length c /\ l.length <= c /\ c <= maxLen /\ Src W 4 A l.length (ecells l) /\ (∀ y ∈ l,Src W 3 y.A y.ops.length (Ops.cells y.ops) /\ 0 <= y.ts /\ y.ts <= maxTs) := by
 have _ : Inhabited EntR := ⟨⟨0,0,none,0,[],0⟩⟩
 obtain ⟨A,c,l,h1,h2,h3,h4,h5,_⟩ := open_rows (α := EntR) ecell (fun y => Src W 3 y.A y.ops.length (Ops.cells y.ops) /\ 0 <= y.ts /\ y.ts <= maxTs) 4 Try.underlying30 (by kernel_rfl) (by decide) (fun _ => rfl)
  (fun fuel cs y hy => by
   obtain ⟨hl,n,hf⟩ := trod_fld Try.underlying115 hy
   have hC : Try.prog.cellsOf 115 = 4 := by kernel_rfl
   rw [hC] at hl
   match cs,hl with
   | [c0,c1,c2,c3],_ =>
    have eB : Try.prog.cellsOf 29 = 3 := by kernel_rfl
    have e3 : Try.prog.cellsOf 3 = 1 := by kernel_rfl
    have eO : Try.prog.cellsOf 27 = 1 := by kernel_rfl
    have eU : Try.prog.cellsOf 22 = 1 := by kernel_rfl
    obtain ⟨_,h0⟩ := hf 0 _ rfl
    obtain ⟨_,h1⟩ := hf 1 _ rfl
    obtain ⟨x3,hx3,_,m3⟩ := DataW.trod_int Try.underlying22 h1
    simp [eB] at h0
    simp [eU] at hx3
    obtain ⟨_,n2,hg⟩ := trod_fld Try.underlying29 h0
    obtain ⟨_,g0⟩ := hg 0 _ rfl
    obtain ⟨_,g1⟩ := hg 1 _ rfl
    obtain ⟨_,g2⟩ := hg 2 _ rfl
    obtain ⟨x0,hx0,_,_⟩ := DataW.trod_int Try.underlying3 g0
    obtain ⟨x1,hx1,_,_⟩ := DataW.trod_int Try.underlying3 g1
    simp [e3] at hx0 hx1
    simp [eO] at g2
    subst hx0
    subst hx1
    subst hx3
    obtain ⟨v1,t1⟩ := slice_of Try.underlying27 g2
    obtain ⟨oA,oc,ops,rfl,_,_,q⟩ := mo_ops v1 t1
    exact ⟨⟨x0,x1,oA,oc,ops,x3⟩,rfl,q,u64r m3⟩) h hv
 exact ⟨A,c,l,h1,h2,h3,h4,h5⟩
theorem open_msg0 (fuel : Nat) (cs : List Value) (y : DataW H × List MemPlace) (hy : DataW.trod enc Try.prog W 0 (fun _ => true) true fuel 34 cs = some y) : ∃ a,cs = xcell a /\ MGood W a := by
 obtain ⟨hl,n,hf⟩ := trod_fld Try.underlying34 hy
 have hC : Try.prog.cellsOf 34 = 22 := by kernel_rfl
 rw [hC] at hl
 match cs,hl with
 | [c0,c1,c2,c3,c4,c5,c6,c7,c8,c9,c10,c11,c12,c13,c14,c15,c16,c17,c18,c19,c20,c21],_ =>
  have e3 : Try.prog.cellsOf 3 = 1 := by kernel_rfl
  have e4 : Try.prog.cellsOf 4 = 1 := by kernel_rfl
  have e9 : Try.prog.cellsOf 9 = 1 := by kernel_rfl
  have eU : Try.prog.cellsOf 22 = 1 := by kernel_rfl
  have eC : Try.prog.cellsOf 26 = 3 := by kernel_rfl
  have eM : Try.prog.cellsOf 24 = 1 := by kernel_rfl
  have eB : Try.prog.cellsOf 29 = 3 := by kernel_rfl
  have eO : Try.prog.cellsOf 27 = 1 := by kernel_rfl
  have eN : Try.prog.cellsOf 23 = 1 := by kernel_rfl
  have eE : Try.prog.cellsOf 30 = 1 := by kernel_rfl
  have eS : Try.prog.cellsOf 31 = 1 := by kernel_rfl
  have eP : Try.prog.cellsOf 32 = 1 := by kernel_rfl
  obtain ⟨_,h0⟩ := hf 0 _ rfl
  obtain ⟨_,h1⟩ := hf 1 _ rfl
  obtain ⟨_,h2⟩ := hf 2 _ rfl
  obtain ⟨_,h3⟩ := hf 3 _ rfl
  obtain ⟨_,h4⟩ := hf 4 _ rfl
  obtain ⟨_,h5⟩ := hf 5 _ rfl
  obtain ⟨_,h6⟩ := hf 6 _ rfl
  obtain ⟨_,h7⟩ := hf 7 _ rfl
  obtain ⟨_,h8⟩ := hf 8 _ rfl
  obtain ⟨_,h9⟩ := hf 9 _ rfl
  obtain ⟨_,h10⟩ := hf 10 _ rfl
  obtain ⟨_,h11⟩ := hf 11 _ rfl
  obtain ⟨_,h12⟩ := hf 12 _ rfl
  obtain ⟨_,h13⟩ := hf 13 _ rfl
  obtain ⟨_,h14⟩ := hf 14 _ rfl
  obtain ⟨_,h15⟩ := hf 15 _ rfl
  obtain ⟨_,h16⟩ := hf 16 _ rfl
  obtain ⟨_,h17⟩ := hf 17 _ rfl
  obtain ⟨x0,hx0,_,_⟩ := DataW.trod_int Try.underlying3 h0
  obtain ⟨x1,hx1,_,m1⟩ := DataW.trod_int Try.underlying3 h1
  obtain ⟨x2,hx2,_,m2⟩ := DataW.trod_int Try.underlying3 h2
  obtain ⟨x3,hx3,_,m3⟩ := DataW.trod_int Try.underlying3 h3
  obtain ⟨x4,hx4,_⟩ := DataW.trod_bool Try.underlying4 h4
  obtain ⟨x5,hx5,_,m5⟩ := DataW.trod_int Try.underlying22 h5
  obtain ⟨x6,hx6,_,m6⟩ := DataW.trod_int Try.underlying22 h6
  obtain ⟨x7,hx7,_,m7⟩ := DataW.trod_int Try.underlying3 h7
  obtain ⟨x8,hx8,_,_⟩ := DataW.trod_int Try.underlying3 h8
  obtain ⟨x9,hx9,_,_⟩ := DataW.trod_int Try.underlying3 h9
  obtain ⟨x10,hx10,_,m10⟩ := DataW.trod_int Try.underlying23 h10
  obtain ⟨x11,hx11,_,m11⟩ := DataW.trod_string Try.underlying9 h11
  obtain ⟨x12,hx12,_,m12⟩ := DataW.trod_string Try.underlying9 h12
  simp [e3] at hx0 hx1 hx2 hx3 hx7 hx8 hx9
  simp [e4] at hx4
  simp [eU] at hx5 hx6
  simp [eN] at hx10
  simp [e9] at hx11 hx12
  simp [eC] at h13
  simp [eB] at h14
  simp [eE] at h15
  simp [eS] at h16
  simp [eP] at h17
  obtain ⟨_,n2,hg⟩ := trod_fld Try.underlying26 h13
  obtain ⟨_,g0⟩ := hg 0 _ rfl
  obtain ⟨_,g1⟩ := hg 1 _ rfl
  obtain ⟨_,g2⟩ := hg 2 _ rfl
  obtain ⟨x13,hx13,_,_⟩ := DataW.trod_int Try.underlying3 g0
  obtain ⟨x15,hx15,_,m15⟩ := DataW.trod_int Try.underlying22 g2
  simp [e3] at hx13
  simp [eU] at hx15
  simp [eM] at g1
  obtain ⟨_,n3,hh⟩ := trod_fld Try.underlying29 h14
  obtain ⟨_,k0⟩ := hh 0 _ rfl
  obtain ⟨_,k1⟩ := hh 1 _ rfl
  obtain ⟨_,k2⟩ := hh 2 _ rfl
  obtain ⟨x16,hx16,_,_⟩ := DataW.trod_int Try.underlying3 k0
  obtain ⟨x17,hx17,_,_⟩ := DataW.trod_int Try.underlying3 k1
  simp [e3] at hx16 hx17
  simp [eO] at k2
  subst hx0 hx1 hx2 hx3 hx4 hx5 hx6 hx7 hx8 hx9 hx10 hx11 hx12 hx13 hx15 hx16 hx17
  obtain ⟨v14,t14⟩ := slice_of Try.underlying24 g1
  obtain ⟨v18,t18⟩ := slice_of Try.underlying27 k2
  obtain ⟨v19,t19⟩ := slice_of Try.underlying30 h15
  obtain ⟨v20,t20⟩ := slice_of Try.underlying31 h16
  obtain ⟨v21,t21⟩ := slice_of Try.underlying32 h17
  obtain ⟨mA,mc,ms,rfl,q1,q2,q3,_⟩ := mo_mems v14 t14
  obtain ⟨oA,oc,ops,rfl,q4,q5,q6⟩ := mo_ops v18 t18
  obtain ⟨eA,ec,es,rfl,q7,q8,q9,q10⟩ := mo_ents v19 t19
  obtain ⟨sA,sc,ss,rfl,q11,q12,q13,q14⟩ := mo_u64s v20 t20
  obtain ⟨pA,pc,ps,rfl,q15,q16,q17,q18⟩ := mo_pairs v21 t21
  exact ⟨⟨x0,x1,x2,x3,x4,x5,x6,x7,x8,x9,x10,x11,x12,x13,mA,mc,ms,x15,x16,x17,oA,oc,ops,eA,ec,es,sA,sc,ss,pA,pc,ps⟩,rfl,q3,q1,q6,q9,q10,q13,q14,q17,⟨u64r m5,u64r m6,u64r m15⟩,m3,q18,⟨q15,q16⟩,⟨m11,m12⟩,⟨m7,m2,m10,m1⟩,Nat.le_trans q1 q2,Nat.le_trans q4 q5,Nat.le_trans q7 q8,Nat.le_trans q11 q12,Nat.le_trans q15 q16⟩
theorem open_msg (hv : Value.okWide Try.prog W r b0 34 v) (h : DataW.Trod enc Try.prog W 0 (fun _ => true) true 34 v d ps) : ∃ x : MsgR,v = xagg x /\ MGood W x := by
 obtain ⟨cs,rfl,hsz⟩ := okWide_struct Try.underlying34 hv
 obtain ⟨fuel,hy⟩ := h
 obtain ⟨x,hx,hg⟩ := open_msg0 _ _ _ hy
 exact ⟨x,by show Value.agg cs = .agg (xcell x).toArray;rw [<- hx];simp [Value.cells],hg⟩
end
end MO
end Go.Proofs.Ytobfdolhgnoedaa

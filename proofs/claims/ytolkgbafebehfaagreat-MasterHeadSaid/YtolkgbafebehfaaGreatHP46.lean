/- Part 47 of what the proof needs. -/
import Derived.Test.YtolkgbafebehfaaGreatHP02
import Derived.Test.YtolkgbafebehfaaGreatHP04
import Derived.Test.YtolkgbafebehfaaGreatHP16
import Derived.Test.YtolkgbafebehfaaGreatHP44
import Derived.Test.YtolkgbafebehfaaGreatHP45
import Derived.Test.YtolkgbafebehfaaGreatRows
import Derived.ProofKit
import Derived.OpenShut
import Derived.Lib.SmallJoins
set_option linter.unusedSimpArgs false
set_option linter.unusedVariables false
set_option maxHeartbeats 32000000
set_option maxRecDepth 100000
namespace Go.Proofs.YtolkgbafebehfaaGreat
open Go.RowKit Go.WideShapes Go.ChangeShapes
set_option maxRecDepth 100000
namespace MO
open Plan Ops Ent Msg
structure MGood (w : World) (x : MsgR) : Prop where
 m : Src w 2 x.mA x.ms.length (mcells x.ms)
 mc : x.ms.length <= x.mc
 o : Src w 3 x.oA x.ops.length (cells x.ops)
 e : Src w 4 x.eA x.es.length (ecells x.es)
 eo : ∀ y ∈ x.es,Src w 3 y.A y.ops.length (cells y.ops) /\ 0 <= y.ts /\ y.ts <= maxTs
 s : Src w 1 x.sA x.ss.length (u64s x.ss)
 so : ∀ y ∈ x.ss,0 <= y /\ y <= maxTs
 p : Src w 2 x.pA x.ps.length (Ops.pcells x.ps)
 t : (0 <= x.at' /\ x.at' <= maxTs) /\ (0 <= x.last /\ x.last <= maxTs) /\ (0 <= x.cfl /\ x.cfl <= maxTs)
 i : I64 x.ser
 lens : x.ms.length <= maxLen /\ x.ops.length <= maxLen /\ x.es.length <= maxLen /\ x.ss.length <= maxLen /\ x.ps.length <= maxLen
theorem MGood.kept {w w' : World} {x : MsgR} (h : MGood w x) (hk : Kept NoF w w') : MGood w' x :=
 ⟨h.m.kept hk (fun _ _ z => z),h.mc,h.o.kept hk (fun _ _ z => z),h.e.kept hk (fun _ _ z => z),(fun y hy => ⟨(h.eo y hy).1.kept hk (fun _ _ z => z),(h.eo y hy).2⟩),h.s.kept hk (fun _ _ z => z),h.so,h.p.kept hk (fun _ _ z => z),h.t,h.i,h.lens⟩
theorem MGood.ok {w : World} {x : MsgR} (h : MGood w x) (h1 : x.ms.length <= 20) (h3 : x.es.length <= 20) (h4 : x.ss.length <= 20) (h5 : x.ps.length <= 40) : XOk w x :=
 ⟨h.m,h.mc,by omega,h.o,h.e,h.eo,by omega,h.s,by omega,h.so,h.p,by omega,h.t⟩
theorem trod_fld {H : Type} {enc : TypeId × Value -> H} {P : Program} {w : World} {base : Nat} {spare : Nat -> Bool} {held : Bool} {t : TypeId} {fs : Array Field} {fuel : Nat} {cs : List Value} {x : DataW H × List MemPlace}
  (ht : P.underlying t = some (.struct fs)) (h : DataW.trod enc P w base spare held fuel t cs = some x) :
  cs.length = P.cellsOf t /\ ∃ n,∀ (i : Nat) (f : Field),fs[i]? = some f -> ∃ y,DataW.trod enc P w base spare held n f.type ((cs.drop f.offset).take (P.cellsOf f.type)) = some y := by
 obtain ⟨xs,n,_,rfl,hl,hlen,hf⟩ := DataW.trod_struct ht h
 refine ⟨hl,n,fun i f hi => ?_⟩
 have h1 := hf i f hi
 have h2 : i < xs.length := by rw [hlen];exact (Array.getElem?_eq_some_iff.1 hi).1
 exact ⟨xs[i],h1.trans (List.getElem?_eq_getElem h2)⟩
section
variable {H : Type} {enc : TypeId × Value -> H} {W : World} {v : Value} {d : DataW H} {ps : List MemPlace} {r : Reach} {b0 : Nat}
theorem u64r {x : Int} (h : (Lit.int .u64 x).wf = true) : 0 <= x /\ x <= maxTs := by
 unfold maxTs
 simpa [Lit.wf,IntKind.min,IntKind.max,IntKind.signed,IntKind.bits] using h
theorem slice_of {t e : TypeId} {fuel : Nat} {c0 : Value} {y : DataW H × List MemPlace} (ht : Tryz.prog.underlying t = some (.slice e)) (h : DataW.trod enc Tryz.prog W 0 (fun _ => true) true fuel t [c0] = some y) :
  (∃ A n c,c0 = .slice A n c) /\ DataW.Trod enc Tryz.prog W 0 (fun _ => true) true t c0 y.1 y.2 := by
 have hv1 : ∃ A n c,c0 = .slice A n c := by
  rcases Deep.open_slice ht h with ⟨e,_⟩ | ⟨a,len,cap,_,_,_,_,e,_⟩
  ·simp at e;exact ⟨_,_,_,e⟩
  ·simp at e;exact ⟨_,_,_,e⟩
 refine ⟨hv1,?_⟩
 obtain ⟨A,k',c,rfl⟩ := hv1
 exact ⟨fuel,h⟩
theorem mo_mems (hv : ∃ A n c,v = .slice A n c) (h : DataW.Trod enc Tryz.prog W 0 (fun _ => true) true 22 v d ps) :
  ∃ (A : Option Addr) (c : Nat) (l : List Mem),v = .slice A l.length c /\ l.length <= c /\ c <= maxLen /\ Src W 2 A l.length (mcells l) /\ (∀ m ∈ l,I64 m.1) := by
 obtain ⟨A,c,l,h1,h2,h3,h4,h5,_⟩ := open_rows (α := Mem) mcell (fun m => I64 m.1) 2 Tryz.underlying22 (by kernel_rfl) (by decide) (fun _ => rfl)
  (fun fuel cs y hy => by
   obtain ⟨hl,n,hf⟩ := trod_fld Tryz.underlying53 hy
   have hC : Tryz.prog.cellsOf 53 = 2 := by kernel_rfl
   rw [hC] at hl
   match cs,hl with
   | [c0,c1],_ =>
    have e3 : Tryz.prog.cellsOf 3 = 1 := by kernel_rfl
    obtain ⟨_,h0⟩ := hf 0 _ rfl
    obtain ⟨_,h1⟩ := hf 1 _ rfl
    obtain ⟨x0,hx0,_,m0⟩ := DataW.trod_int Tryz.underlying3 h0
    obtain ⟨x1,hx1,_,_⟩ := DataW.trod_int Tryz.underlying3 h1
    simp [e3] at hx0 hx1
    subst hx0
    subst hx1
    exact ⟨(x0,x1),rfl,m0⟩) h hv
 exact ⟨A,c,l,h1,h2,h3,h4,h5⟩
theorem mo_ops (hv : ∃ A n c,v = .slice A n c) (h : DataW.Trod enc Tryz.prog W 0 (fun _ => true) true 39 v d ps) :
  ∃ (A : Option Addr) (c : Nat) (l : List OpR),v = .slice A l.length c /\ l.length <= c /\ c <= maxLen /\ Src W 3 A l.length (Ops.cells l) := by
 have _ : Inhabited OpR := ⟨⟨⟨#[]⟩,⟨#[]⟩,false⟩⟩
 obtain ⟨A,c,l,h1,h2,h3,h4,h5,_⟩ := open_rows (α := OpR) Ops.cell (fun o => True) 3 Tryz.underlying39 (by kernel_rfl) (by decide) (fun _ => rfl)
  (fun fuel cs y hy => by
   obtain ⟨hl,n,hf⟩ := trod_fld Tryz.underlying398 hy
   have hC : Tryz.prog.cellsOf 398 = 3 := by kernel_rfl
   rw [hC] at hl
   match cs,hl with
   | [c0,c1,c2],_ =>
    have e9 : Tryz.prog.cellsOf 9 = 1 := by kernel_rfl
    have e4 : Tryz.prog.cellsOf 4 = 1 := by kernel_rfl
    obtain ⟨_,h0⟩ := hf 0 _ rfl
    obtain ⟨_,h1⟩ := hf 1 _ rfl
    obtain ⟨_,h2⟩ := hf 2 _ rfl
    obtain ⟨x0,hx0,_,m0⟩ := DataW.trod_string Tryz.underlying9 h0
    obtain ⟨x1,hx1,_,m1⟩ := DataW.trod_string Tryz.underlying9 h1
    obtain ⟨x2,hx2,_⟩ := DataW.trod_bool Tryz.underlying4 h2
    simp [e9] at hx0 hx1
    simp [e9,e4] at hx2
    subst hx0
    subst hx1
    subst hx2
    exact ⟨⟨x0,x1,x2⟩,rfl,trivial⟩) h hv
 exact ⟨A,c,l,h1,h2,h3,h4⟩
theorem mo_pairs (hv : ∃ A n c,v = .slice A n c) (h : DataW.Trod enc Tryz.prog W 0 (fun _ => true) true 44 v d ps) :
  ∃ (A : Option Addr) (c : Nat) (l : List PairR),v = .slice A l.length c /\ l.length <= c /\ c <= maxLen /\ Src W 2 A l.length (Ops.pcells l) := by
 have _ : Inhabited PairR := ⟨⟨⟨#[]⟩,⟨#[]⟩⟩⟩
 obtain ⟨A,c,l,h1,h2,h3,h4,h5,_⟩ := open_rows (α := PairR) Ops.pcell (fun o => True) 2 Tryz.underlying44 (by kernel_rfl) (by decide) (fun _ => rfl)
  (fun fuel cs y hy => by
   obtain ⟨hl,n,hf⟩ := trod_fld Tryz.underlying401 hy
   have hC : Tryz.prog.cellsOf 401 = 2 := by kernel_rfl
   rw [hC] at hl
   match cs,hl with
   | [c0,c1],_ =>
    have e9 : Tryz.prog.cellsOf 9 = 1 := by kernel_rfl
    obtain ⟨_,h0⟩ := hf 0 _ rfl
    obtain ⟨_,h1⟩ := hf 1 _ rfl
    obtain ⟨x0,hx0,_,m0⟩ := DataW.trod_string Tryz.underlying9 h0
    obtain ⟨x1,hx1,_,m1⟩ := DataW.trod_string Tryz.underlying9 h1
    simp [e9] at hx0 hx1
    subst hx0
    subst hx1
    exact ⟨⟨x0,x1⟩,rfl,trivial⟩) h hv
 exact ⟨A,c,l,h1,h2,h3,h4⟩
theorem mo_u64s (hv : ∃ A n c,v = .slice A n c) (h : DataW.Trod enc Tryz.prog W 0 (fun _ => true) true 43 v d ps) :
  ∃ (A : Option Addr) (c : Nat) (l : List Int),v = .slice A l.length c /\ l.length <= c /\ c <= maxLen /\ Src W 1 A l.length (u64s l) /\ (∀ x ∈ l,0 <= x /\ x <= maxTs) := by
 obtain ⟨A,c,l,h1,h2,h3,h4,h5,_⟩ := open_rows (α := Int) (fun x => [.int .u64 x]) (fun x => 0 <= x /\ x <= maxTs) 1 Tryz.underlying43 (by kernel_rfl) (by decide) (fun _ => rfl)
  (fun fuel cs y hy => by
   obtain ⟨x,hx,_,hw⟩ := DataW.trod_int Tryz.underlying23 hy
   exact ⟨x,hx,u64r hw⟩) h hv
 have hf : ∀ l : List Int,l.flatMap (fun x => [Value.int .u64 x]) = u64s l := by
  intro l
  induction l with
  | nil => rfl
  | cons a l ih => rw [List.flatMap_cons,ih];rfl
 rw [hf] at h4
 exact ⟨A,c,l,h1,h2,h3,h4,h5⟩
theorem mo_ents (hv : ∃ A n c,v = .slice A n c) (h : DataW.Trod enc Tryz.prog W 0 (fun _ => true) true 42 v d ps) :
  ∃ (A : Option Addr) (c : Nat) (l : List EntR),v = .slice A l.length c /\ l.length <= c /\ c <= maxLen /\ Src W 4 A l.length (ecells l) /\ (∀ y ∈ l,Src W 3 y.A y.ops.length (Ops.cells y.ops) /\ 0 <= y.ts /\ y.ts <= maxTs) := by
 have _ : Inhabited EntR := ⟨⟨0,0,none,0,[],0⟩⟩
 obtain ⟨A,c,l,h1,h2,h3,h4,h5,_⟩ := open_rows (α := EntR) ecell (fun y => Src W 3 y.A y.ops.length (Ops.cells y.ops) /\ 0 <= y.ts /\ y.ts <= maxTs) 4 Tryz.underlying42 (by kernel_rfl) (by decide) (fun _ => rfl)
  (fun fuel cs y hy => by
   obtain ⟨hl,n,hf⟩ := trod_fld Tryz.underlying98 hy
   have hC : Tryz.prog.cellsOf 98 = 4 := by kernel_rfl
   rw [hC] at hl
   match cs,hl with
   | [c0,c1,c2,c3],_ =>
    have eB : Tryz.prog.cellsOf 41 = 3 := by kernel_rfl
    have e3 : Tryz.prog.cellsOf 3 = 1 := by kernel_rfl
    have eO : Tryz.prog.cellsOf 39 = 1 := by kernel_rfl
    have eU : Tryz.prog.cellsOf 23 = 1 := by kernel_rfl
    obtain ⟨_,h0⟩ := hf 0 _ rfl
    obtain ⟨_,h1⟩ := hf 1 _ rfl
    obtain ⟨x3,hx3,_,m3⟩ := DataW.trod_int Tryz.underlying23 h1
    simp [eB] at h0
    simp [eU] at hx3
    obtain ⟨_,n2,hg⟩ := trod_fld Tryz.underlying41 h0
    obtain ⟨_,g0⟩ := hg 0 _ rfl
    obtain ⟨_,g1⟩ := hg 1 _ rfl
    obtain ⟨_,g2⟩ := hg 2 _ rfl
    obtain ⟨x0,hx0,_,_⟩ := DataW.trod_int Tryz.underlying3 g0
    obtain ⟨x1,hx1,_,_⟩ := DataW.trod_int Tryz.underlying3 g1
    simp [e3] at hx0 hx1
    simp [eO] at g2
    subst hx0
    subst hx1
    subst hx3
    obtain ⟨v1,t1⟩ := slice_of Tryz.underlying39 g2
    obtain ⟨oA,oc,ops,rfl,_,_,q⟩ := mo_ops v1 t1
    exact ⟨⟨x0,x1,oA,oc,ops,x3⟩,rfl,q,u64r m3⟩) h hv
 exact ⟨A,c,l,h1,h2,h3,h4,h5⟩
theorem open_msg0 (fuel : Nat) (cs : List Value) (y : DataW H × List MemPlace) (hy : DataW.trod enc Tryz.prog W 0 (fun _ => true) true fuel 46 cs = some y) : ∃ a,cs = xcell a /\ MGood W a := by
 obtain ⟨hl,n,hf⟩ := trod_fld Tryz.underlying46 hy
 have hC : Tryz.prog.cellsOf 46 = 22 := by kernel_rfl
 rw [hC] at hl
 match cs,hl with
 | [c0,c1,c2,c3,c4,c5,c6,c7,c8,c9,c10,c11,c12,c13,c14,c15,c16,c17,c18,c19,c20,c21],_ =>
  have e3 : Tryz.prog.cellsOf 3 = 1 := by kernel_rfl
  have e4 : Tryz.prog.cellsOf 4 = 1 := by kernel_rfl
  have e9 : Tryz.prog.cellsOf 9 = 1 := by kernel_rfl
  have eU : Tryz.prog.cellsOf 23 = 1 := by kernel_rfl
  have eC : Tryz.prog.cellsOf 25 = 3 := by kernel_rfl
  have eM : Tryz.prog.cellsOf 22 = 1 := by kernel_rfl
  have eB : Tryz.prog.cellsOf 41 = 3 := by kernel_rfl
  have eO : Tryz.prog.cellsOf 39 = 1 := by kernel_rfl
  have eN : Tryz.prog.cellsOf 30 = 1 := by kernel_rfl
  have eE : Tryz.prog.cellsOf 42 = 1 := by kernel_rfl
  have eS : Tryz.prog.cellsOf 43 = 1 := by kernel_rfl
  have eP : Tryz.prog.cellsOf 44 = 1 := by kernel_rfl
  obtain ⟨_,h0⟩ := hf 0 _ rfl
  obtain ⟨_,h1⟩ := hf 1 _ rfl
  obtain ⟨_,h2⟩ := hf 2 _ rfl
  obtain ⟨_,h3⟩ := hf 3 _ rfl
  obtain ⟨_,h4⟩ := hf 4 _ rfl
  obtain ⟨_,h5⟩ := hf 5 _ rfl
  obtain ⟨_,h6⟩ := hf 6 _ rfl
  obtain ⟨_,h7⟩ := hf 7 _ rfl
  obtain ⟨_,h8⟩ := hf 8 _ rfl
  obtain ⟨_,h9⟩ := hf 9 _ rfl
  obtain ⟨_,h10⟩ := hf 10 _ rfl
  obtain ⟨_,h11⟩ := hf 11 _ rfl
  obtain ⟨_,h12⟩ := hf 12 _ rfl
  obtain ⟨_,h13⟩ := hf 13 _ rfl
  obtain ⟨_,h14⟩ := hf 14 _ rfl
  obtain ⟨_,h15⟩ := hf 15 _ rfl
  obtain ⟨_,h16⟩ := hf 16 _ rfl
  obtain ⟨_,h17⟩ := hf 17 _ rfl
  obtain ⟨x0,hx0,_,_⟩ := DataW.trod_int Tryz.underlying3 h0
  obtain ⟨x1,hx1,_,_⟩ := DataW.trod_int Tryz.underlying3 h1
  obtain ⟨x2,hx2,_,_⟩ := DataW.trod_int Tryz.underlying3 h2
  obtain ⟨x3,hx3,_,m3⟩ := DataW.trod_int Tryz.underlying3 h3
  obtain ⟨x4,hx4,_⟩ := DataW.trod_bool Tryz.underlying4 h4
  obtain ⟨x5,hx5,_,m5⟩ := DataW.trod_int Tryz.underlying23 h5
  obtain ⟨x6,hx6,_,m6⟩ := DataW.trod_int Tryz.underlying23 h6
  obtain ⟨x7,hx7,_,_⟩ := DataW.trod_int Tryz.underlying3 h7
  obtain ⟨x8,hx8,_,_⟩ := DataW.trod_int Tryz.underlying3 h8
  obtain ⟨x9,hx9,_,_⟩ := DataW.trod_int Tryz.underlying3 h9
  obtain ⟨x10,hx10,_,_⟩ := DataW.trod_int Tryz.underlying30 h10
  obtain ⟨x11,hx11,_,_⟩ := DataW.trod_string Tryz.underlying9 h11
  obtain ⟨x12,hx12,_,_⟩ := DataW.trod_string Tryz.underlying9 h12
  simp [e3] at hx0 hx1 hx2 hx3 hx7 hx8 hx9
  simp [e4] at hx4
  simp [eU] at hx5 hx6
  simp [eN] at hx10
  simp [e9] at hx11 hx12
  simp [eC] at h13
  simp [eB] at h14
  simp [eE] at h15
  simp [eS] at h16
  simp [eP] at h17
  obtain ⟨_,n2,hg⟩ := trod_fld Tryz.underlying25 h13
  obtain ⟨_,g0⟩ := hg 0 _ rfl
  obtain ⟨_,g1⟩ := hg 1 _ rfl
  obtain ⟨_,g2⟩ := hg 2 _ rfl
  obtain ⟨x13,hx13,_,_⟩ := DataW.trod_int Tryz.underlying3 g0
  obtain ⟨x15,hx15,_,m15⟩ := DataW.trod_int Tryz.underlying23 g2
  simp [e3] at hx13
  simp [eU] at hx15
  simp [eM] at g1
  obtain ⟨_,n3,hh⟩ := trod_fld Tryz.underlying41 h14
  obtain ⟨_,k0⟩ := hh 0 _ rfl
  obtain ⟨_,k1⟩ := hh 1 _ rfl
  obtain ⟨_,k2⟩ := hh 2 _ rfl
  obtain ⟨x16,hx16,_,_⟩ := DataW.trod_int Tryz.underlying3 k0
  obtain ⟨x17,hx17,_,_⟩ := DataW.trod_int Tryz.underlying3 k1
  simp [e3] at hx16 hx17
  simp [eO] at k2
  subst hx0 hx1 hx2 hx3 hx4 hx5 hx6 hx7 hx8 hx9 hx10 hx11 hx12 hx13 hx15 hx16 hx17
  obtain ⟨v14,t14⟩ := slice_of Tryz.underlying22 g1
  obtain ⟨v18,t18⟩ := slice_of Tryz.underlying39 k2
  obtain ⟨v19,t19⟩ := slice_of Tryz.underlying42 h15
  obtain ⟨v20,t20⟩ := slice_of Tryz.underlying43 h16
  obtain ⟨v21,t21⟩ := slice_of Tryz.underlying44 h17
  obtain ⟨mA,mc,ms,rfl,q1,q2,q3,_⟩ := mo_mems v14 t14
  obtain ⟨oA,oc,ops,rfl,q4,q5,q6⟩ := mo_ops v18 t18
  obtain ⟨eA,ec,es,rfl,q7,q8,q9,q10⟩ := mo_ents v19 t19
  obtain ⟨sA,sc,ss,rfl,q11,q12,q13,q14⟩ := mo_u64s v20 t20
  obtain ⟨pA,pc,ps,rfl,q15,q16,q17⟩ := mo_pairs v21 t21
  exact ⟨⟨x0,x1,x2,x3,x4,x5,x6,x7,x8,x9,x10,x11,x12,x13,mA,mc,ms,x15,x16,x17,oA,oc,ops,eA,ec,es,sA,sc,ss,pA,pc,ps⟩,rfl,q3,q1,q6,q9,q10,q13,q14,q17,⟨u64r m5,u64r m6,u64r m15⟩,m3,Nat.le_trans q1 q2,Nat.le_trans q4 q5,Nat.le_trans q7 q8,Nat.le_trans q11 q12,Nat.le_trans q15 q16⟩
end
end MO
namespace MO
open Plan Ops Ent Msg
structure ActR where
 k : Int
 n : Int
 x : MsgR
def acell (a : ActR) : List Value := .int .i64 a.k :: .int .i64 a.n :: xcell a.x
def acells (l : List ActR) : List Value := l.flatMap acell
def AGood (w : World) (a : ActR) : Prop := MGood w a.x /\ I64 a.n
theorem AGood.kept {w w' : World} {a : ActR} (h : AGood w a) (hk : Kept NoF w w') : AGood w' a := ⟨h.1.kept hk,h.2⟩
theorem act_cells {w : World} {A : Option Addr} {m : Nat} {l : List ActR} (h : Src w 24 A m (acells l)) (hm : 0 < m) (i : Nat) (x : ActR) (hx : l[i]? = some x) :
  ∃ ad,A = some ad /\ ad.block < w.heap.size /\ ∀ j u,(acell x)[j]? = some u -> w.cell? ((ad.add (i * 24)).add j) = some u := by
 obtain ⟨ad,rfl,had,hcell⟩ := h.2 hm
 refine ⟨ad,rfl,had,fun j u hu => ?_⟩
 have hj : j < 24 := (List.getElem?_eq_some_iff.1 hu).1
 rw [add_add]
 refine hcell _ _ ?_
 unfold acells
 rw [flat_get acell 24 (by decide) (fun _ => rfl),show (i * 24 + j) / 24 = i by omega,show (i * 24 + j) % 24 = j by omega,hx]
 exact hu
section
variable {H : Type} {enc : TypeId × Value -> H} {W : World} {v : Value} {d : DataW H} {ps : List MemPlace} {r : Reach} {b0 : Nat}
theorem open_act0 (fuel : Nat) (cs : List Value) (y : DataW H × List MemPlace) (hy : DataW.trod enc Tryz.prog W 0 (fun _ => true) true fuel 48 cs = some y) : ∃ a,cs = acell a /\ AGood W a := by
 obtain ⟨hl,n,hf⟩ := trod_fld Tryz.underlying48 hy
 have hC : Tryz.prog.cellsOf 48 = 24 := by kernel_rfl
 rw [hC] at hl
 have e3 : Tryz.prog.cellsOf 3 = 1 := by kernel_rfl
 have eX : Tryz.prog.cellsOf 46 = 22 := by kernel_rfl
 match cs,hl with
 | c0 :: c1 :: r,hl =>
  have hr : r.length = 22 := by simpa using hl
  obtain ⟨_,h0⟩ := hf 0 _ rfl
  obtain ⟨_,h1⟩ := hf 1 _ rfl
  obtain ⟨z2,h2⟩ := hf 2 _ rfl
  obtain ⟨x0,hx0,_,_⟩ := DataW.trod_int Tryz.underlying3 h0
  obtain ⟨x1,hx1,_,m1⟩ := DataW.trod_int Tryz.underlying3 h1
  simp [e3] at hx0 hx1
  have h2' : DataW.trod enc Tryz.prog W 0 (fun _ => true) true n 46 (r.take (Tryz.prog.cellsOf 46)) = some z2 := h2
  rw [eX,List.take_of_length_le (by omega)] at h2'
  subst hx0 hx1
  obtain ⟨x,hx,hg⟩ := open_msg0 _ _ _ h2'
  exact ⟨⟨x0,x1,x⟩,by rw [hx];rfl,hg,m1⟩
theorem open_acts (hv : Value.okWide Tryz.prog W r b0 26 v) (h : DataW.Trod enc Tryz.prog W 0 (fun _ => true) true 26 v d ps) :
  ∃ (A : Option Addr) (c : Nat) (l : List ActR),v = .slice A l.length c /\ l.length <= c /\ c <= maxLen /\ Src W 24 A l.length (acells l) /\ (∀ x ∈ l,AGood W x) := by
 have _ : Inhabited ActR := ⟨⟨0,0,⟨0,0,0,0,false,0,0,0,0,0,0,⟨#[]⟩,⟨#[]⟩,0,none,0,[],0,0,0,none,0,[],none,0,[],none,0,[],none,0,[]⟩⟩⟩
 obtain ⟨A,c,l,h1,h2,h3,h4,h5,_⟩ := open_rows (α := ActR) acell (AGood W) 24 Tryz.underlying26 (by kernel_rfl) (by decide) (fun _ => rfl) open_act0 h (okWide_slice Tryz.underlying26 hv)
 exact ⟨A,c,l,h1,h2,h3,h4,h5⟩
theorem open_confM (hv : Value.okWide Tryz.prog W r b0 25 v) (h : DataW.Trod enc Tryz.prog W 0 (fun _ => true) true 25 v d ps) :
  ∃ (ep fl : Int) (A : Option Addr) (c : Nat) (l : List Plan.Mem),v = Plan.cagg ep A l.length c fl /\ l.length <= c /\ c <= maxLen /\ Src W 2 A l.length (Plan.mcells l) /\ (∀ m ∈ l,Plan.I64 m.1) /\ (0 <= fl /\ fl <= Plan.maxTs) := by
 obtain ⟨v0,v1,v2,y0,y1,y2,n,rfl,_,_,h0,h1,h2⟩ := Joins.open_agg3 Tryz.underlying25 (by kernel_rfl) (by kernel_rfl) hv h
 obtain ⟨x0,hx0,_,_⟩ := DataW.trod_int Tryz.underlying3 h0
 obtain ⟨x2,hx2,_,m2⟩ := DataW.trod_int Tryz.underlying23 h2
 simp at hx0 hx2
 subst hx0
 subst hx2
 obtain ⟨hv1,t1⟩ := slice_of Tryz.underlying22 h1
 obtain ⟨A,c,l,rfl,q1,q2,q3,q4⟩ := mo_mems hv1 t1
 exact ⟨x0,x2,A,c,l,rfl,q1,q2,q3,q4,u64r m2⟩
end
end MO
end Go.Proofs.YtolkgbafebehfaaGreat
namespace Go.Proofs.YtolkgbafebehfaaGreat
open Go.RowKit
set_option maxRecDepth 100000
namespace Mas
open Plan Vn Mst Wat IM Nte Msg MO
def stA : StR := { st0 with ep := 1,ms := [(0,1),(1,1)],fl := 0,lg := [0,1] }
def beatA : MsgR := ⟨2,1,0,1,false,0,0,0,0,0,0,⟨#[]⟩,⟨#[]⟩,0,none,0,[],0,0,0,none,0,[],none,0,[],none,0,[],none,0,[]⟩
structure AwR (M : MR) (j : Nat) : Prop where
 st : M.st = stA
 ns : M.ns = [(j : Int),if j = 0 then 0 else 1,j,j]
 pins : M.pins = []
 joins : ∀ i,M.joins i = false
 leaves : ∀ i,M.leaves i = false
 lost : ∀ i,M.lost i = false
 last : M.last = 0
 mark : M.marks 0 = none
 out : M.out = []
theorem chkA : chkM beatA = 0 := by decide
theorem AwR.deliver {M : MR} {j : Nat} (h : AwR M j) : deliverM M 1 beatA = doneM (marked0 M 1 beatA) := by
 unfold deliverM
 rw [if_pos chkA]
 have e1 : deliver1 M 1 beatA = beatM M 1 beatA := rfl
 rw [e1]
 have e2 : beat1 M 1 beatA = marked0 M 1 beatA := by
  unfold beat1
  rw [h.st,if_pos (by decide),if_neg (by decide),if_neg (by decide)]
 unfold beatM
 rw [h.st,if_neg (by decide),e2]
structure AwD (M : MR) (j : Nat) : Prop where
 st : M.st = stA
 ns : M.ns = [(j : Int),0,j,j]
 pins : M.pins = []
 joins : ∀ i,M.joins i = false
 leaves : ∀ i,M.leaves i = false
 lost : ∀ i,M.lost i = false
 last : M.last = 0
 mark : M.marks 0 = none
 out : M.out = []
theorem AwR.d {M : MR} {j : Nat} (h : AwR M j) : AwD (deliverM M 1 beatA) j := by
 rw [h.deliver]
 refine ⟨h.st,?_,h.pins,h.joins,h.leaves,h.lost,?_,?_,rfl⟩
 ·show M.ns.set 1 0 = _
  rw [h.ns];rfl
 ·show max M.last 0 = 0
  rw [h.last];rfl
 ·show fput M.marks 1 (some 0) 0 = none
  unfold fput
  rw [if_neg (by decide)]
  exact h.mark
theorem AwD.tick1 {M : MR} {j : Nat} (h : AwD M j) : tick1 M = M := by
 unfold Mas.tick1
 have e0 : Lea.goneL M.pins = [] := by rw [h.pins];rfl
 have e1 : tick0 M = M := by
  unfold tick0
  have : Lea.ticked M.pins = M.pins := by rw [h.pins];rfl
  rw [this]
 rw [e0,e1]
 rfl
theorem AwD.ns2 {M : MR} {j : Nat} (h : AwD M j) (hj : j <= 100) : (tick2 M).ns = [(j : Int) + 1,1,(j : Int) + 1,(j : Int) + 1] := by
 unfold tick2
 rw [h.tick1,h.ns]
 have hb : bump (j : Int) = (j : Int) + 1 := by unfold bump;rw [if_neg (by omega)]
 simp [hb]
 rfl
theorem AwD.gone {M : MR} {j : Nat} (h : AwD M j) (hj : j < 5) : goneC (tick2 M) 4 = [] /\ joinC (tick2 M) 4 = [] := by
 have hl : lateL (tick2 M).ns = [] := by
  rw [h.ns2 (by omega)]
  have : j = 0 \/ j = 1 \/ j = 2 \/ j = 3 \/ j = 4 := by omega
  rcases this with rfl | rfl | rfl | rfl | rfl <;> decide
 have h1 : (tick2 M).lost = M.lost /\ (tick2 M).leaves = M.leaves /\ (tick2 M).joins = M.joins := by unfold tick2;rw [h.tick1];exact ⟨rfl,rfl,rfl⟩
 constructor
 ·unfold goneC
  rw [List.map_eq_nil_iff,List.filter_eq_nil_iff]
  intro i _
  unfold goneP
  rw [hl,h1.1,h1.2.1,h.lost,h.leaves]
  simp [inB]
 ·unfold joinC
  rw [List.map_eq_nil_iff,List.filter_eq_nil_iff]
  intro i _
  unfold joinP
  rw [h1.2.2,h.joins]
  simp
theorem AwD.st2 {M : MR} {j : Nat} (h : AwD M j) : (tick2 M).st = stA /\ (tick2 M).last = 0 /\ (tick2 M).marks 0 = none /\ (tick2 M).out = [] /\ (tick2 M).pins = [] := by
 unfold tick2
 rw [h.tick1]
 exact ⟨h.st,h.last,h.mark,h.out,h.pins⟩
theorem AwD.next {M : MR} {j : Nat} (h : AwD M j) (hj : j < 5) : nextM (tick2 M) = tick2 M := by
 unfold nextM
 have hp : (nextP (tick2 M)).e = 20 := by
  unfold nextP
  rw [(h.gone hj).1,(h.gone hj).2,h.st2.1,h.st2.2.1]
  decide
 rw [if_pos (by rw [hp];decide)]
theorem AwD.hor {M : MR} {j : Nat} (h : AwD M j) : horizonM (tick2 M) = tick2 M := by
 unfold horizonM
 have hk : known (tick2 M) (tick2 M).st.ms.length = false := by
  unfold known
  rw [h.st2.1]
  show (([(0,1),(1,1)] : List Mem).all fun m => ((tick2 M).marks m.1).isSome) = false
  simp only [List.all_cons,h.st2.2.2.1]
  rfl
 rw [hk,if_neg (by decide)]
theorem tellN_same (M : MR) (l : List Mem) : (tellN M l).st = M.st /\ (tellN M l).ns = M.ns /\ (tellN M l).pins = M.pins /\ (tellN M l).joins = M.joins /\ (tellN M l).leaves = M.leaves /\ (tellN M l).lost = M.lost /\ (tellN M l).last = M.last /\ (tellN M l).marks = M.marks := by
 induction l generalizing M with
 | nil => exact ⟨rfl,rfl,rfl,rfl,rfl,rfl,rfl,rfl⟩
 | cons a l ih =>
  have hs : ∀ x,(sendM M a.1 x).st = M.st /\ (sendM M a.1 x).ns = M.ns /\ (sendM M a.1 x).pins = M.pins /\ (sendM M a.1 x).joins = M.joins /\ (sendM M a.1 x).leaves = M.leaves /\ (sendM M a.1 x).lost = M.lost /\ (sendM M a.1 x).last = M.last /\ (sendM M a.1 x).marks = M.marks := fun x => by
   unfold sendM;split <;> exact ⟨rfl,rfl,rfl,rfl,rfl,rfl,rfl,rfl⟩
  obtain ⟨a1,a2,a3,a4,a5,a6,a7,a8⟩ := ih (whereM M a.1)
  obtain ⟨b1,b2,b3,b4,b5,b6,b7,b8⟩ := hs (confMsg M.st none 0)
  exact ⟨a1.trans b1,a2.trans b2,a3.trans b3,a4.trans b4,a5.trans b5,a6.trans b6,a7.trans b7,a8.trans b8⟩
theorem AwD.tick {M : MR} {j : Nat} (h : AwD M j) (hj : j < 5) : AwR (tickM M) (j + 1) := by
 have e3 : tick3 M = tick2 M := by unfold tick3;rw [h.next hj,h.hor]
 have ht := tellN_same (tick2 M) (tick2 M).st.ms
 have e4 : tick4 M = tellN (tick2 M) (tick2 M).st.ms := by unfold tick4;rw [e3]
 have e5 : tickM M = doneM (tellN (tick2 M) (tick2 M).st.ms) := by unfold tickM;rw [e4]
 rw [e5]
 obtain ⟨a1,a2,a3,a4,a5,a6,a7,a8⟩ := ht
 have h1 : (tick2 M).lost = M.lost /\ (tick2 M).leaves = M.leaves /\ (tick2 M).joins = M.joins := by unfold tick2;rw [h.tick1];exact ⟨rfl,rfl,rfl⟩
 refine ⟨a1.trans h.st2.1,?_,a3.trans h.st2.2.2.2.2,fun i => ?_,fun i => ?_,fun i => ?_,a7.trans h.st2.2.1,?_,rfl⟩
 ·show (tellN (tick2 M) (tick2 M).st.ms).ns = _
  rw [a2,h.ns2 (by omega),if_neg (Nat.succ_ne_zero j)]
  simp
 ·show (tellN (tick2 M) (tick2 M).st.ms).joins i = false
  rw [a4,h1.2.2];exact h.joins i
 ·show (tellN (tick2 M) (tick2 M).st.ms).leaves i = false
  rw [a5,h1.2.1];exact h.leaves i
 ·show (tellN (tick2 M) (tick2 M).st.ms).lost i = false
  rw [a6,h1.1];exact h.lost i
 ·show (tellN (tick2 M) (tick2 M).st.ms).marks 0 = none
  rw [a8];exact h.st2.2.2.1
theorem idsA : ids [(1,1)] = [1] := by unfold ids;simp
theorem AwD.last5 {M : MR} (h : AwD M 5) : (tickM M).st.ep = 2 /\ (tickM M).st.ms = [(1,1)] := by
 have h1 : (tick2 M).lost = M.lost /\ (tick2 M).leaves = M.leaves /\ (tick2 M).joins = M.joins := by unfold tick2;rw [h.tick1];exact ⟨rfl,rfl,rfl⟩
 have hl : lateL (tick2 M).ns = [0,2,3] := by rw [h.ns2 (by omega)];decide
 have hg : goneC (tick2 M) 4 = [0] := by
  have hp : ∀ i : Nat,goneP (tick2 M) i = (anyId stA.ms i && inB [0,2,3] i) := fun i => by
   unfold goneP
   rw [hl,h1.1,h1.2.1,h.lost,h.leaves,h.st2.1]
   simp
  unfold goneC
  rw [show goneP (tick2 M) = fun i : Nat => (anyId stA.ms i && inB [0,2,3] i) from funext hp]
  decide
 have hj : joinC (tick2 M) 4 = [] := by
  unfold joinC
  rw [List.map_eq_nil_iff,List.filter_eq_nil_iff]
  intro i _
  unfold joinP
  rw [h1.2.2,h.joins]
  simp
 have hf : firsts stA.ms stA.lg [0] = [(1,1)] := by decide
 have hP : nextP (tick2 M) = ⟨0,2,[(1,1)],1,[1]⟩ := by
  unfold nextP nextOf
  rw [hg,hj,h.st2.1,h.st2.2.1,hf,idsA]
  have a1 : ¬ (chk stA.ep stA.ms ≠ 0) := by decide
  have a2 : ¬ (([(1,1)] : List Mem) = []) := by decide
  have a3 : allOf stA.ms stA.lg [0] [] = [(1,1)] := by decide
  rw [if_neg a1,if_neg a2,a3,if_neg (by decide),if_neg (by decide)]
  rfl
 have hE : applyE (tick2 M).st (nextC (nextP (tick2 M))) = 0 := by
  rw [hP,h.st2.1]
  decide
 have hN : (nextM (tick2 M)).st = applyS stA (nextC ⟨0,2,[(1,1)],1,[1]⟩) := by
  unfold nextM
  rw [if_neg (by rw [hP];exact fun z => z rfl),if_neg (by rw [hE];exact fun z => z rfl),sweepN_st]
  show (writeM (tick2 M) (nextC (nextP (tick2 M)))).st = _
  rw [writeM_st,hP,h.st2.1]
 have hH := horizonM_same (nextM (tick2 M))
 have hS : (tickM M).st = (tick3 M).st := tellN_st _ _
 have h3 : (tick3 M).st = (horizonM (nextM (tick2 M))).st := rfl
 rw [hS,h3]
 constructor
 ·rw [hH.ep,hN];decide
 ·rw [hH.ms,hN];decide
theorem idsB : ids [(0,1),(1,1)] = [0,1] := by
 rw [<- idsR_eq (l := [(0,1),(1,1)]) (fun m hm => by simp at hm;rcases hm with rfl | rfl <;> decide)]
 decide
theorem awA : AwR (newM 1 [(0,1),(1,1)] 0) 0 := by
 have hs := newM_st (ep := 1) (fl := 0) (l := [(0,1),(1,1)]) (by decide)
 rw [idsB] at hs
 have hw : ∀ x : NoteR,(writeM (mk0 lg0) x).ns = (mk0 lg0).ns /\ (writeM (mk0 lg0) x).pins = [] /\ (writeM (mk0 lg0) x).joins = (mk0 lg0).joins /\ (writeM (mk0 lg0) x).leaves = (mk0 lg0).leaves /\ (writeM (mk0 lg0) x).lost = (mk0 lg0).lost /\ (writeM (mk0 lg0) x).last = 0 /\ (writeM (mk0 lg0) x).marks = (mk0 lg0).marks := fun x => by
  unfold writeM;split <;> exact ⟨rfl,rfl,rfl,rfl,rfl,rfl,rfl⟩
 obtain ⟨a1,a2,a3,a4,a5,a6,a7⟩ := hw (confN 1 [(0,1),(1,1)] 0 (ids [(0,1),(1,1)]))
 refine ⟨hs,a1,a2,fun i => ?_,fun i => ?_,fun i => ?_,a6,?_,rfl⟩
 ·show (writeM (mk0 lg0) _).joins i = false
  rw [a3];rfl
 ·show (writeM (mk0 lg0) _).leaves i = false
  rw [a4];rfl
 ·show (writeM (mk0 lg0) _).lost i = false
  rw [a5];rfl
 ·show (writeM (mk0 lg0) _).marks 0 = none
  rw [a7];rfl
end Mas
namespace Mas
open Msg MO
def msgAt (w : World) (a : Addr) : Array Value := ((List.range 22).map fun j => (w.cell? (a.add j)).getD undef).toArray
def MsgIn (w : World) (a : Addr) : Prop := ∀ j,j < 22 -> (w.cell? (a.add j)).isSome = true
def loadMsg (a : Addr) : Sem Value := loadVar 46 a
theorem loadVar_msg (a : Addr) : loadVar 46 a = loadMsg a := rfl
theorem run_loadMsg (w : World) (a : Addr) (h : MsgIn w a) : (loadMsg a).run Tryz.prog w = .ok (.agg (msgAt w a)) w := by
 have hl := run_loadCells (P := Tryz.prog) w a 22 (fun j => (w.cell? (a.add j)).getD undef) (fun j hj => by
  obtain ⟨v,hv⟩ := Option.isSome_iff_exists.1 (h j hj)
  rw [hv];rfl)
 have hi : (Tryz.prog.info? 46).map (·.size) = some 22 := by kernel_rfl
 have hagg : ∀ W,(isAgg 46).run Tryz.prog W = .ok true W := fun W => by
  unfold isAgg
  rw [Sem.run_bind,run_underlying Tryz.underlying46 W]
  rfl
 cases hq : Tryz.prog.info? 46 with
 | none => simp [hq] at hi
 | some i =>
  have hs : i.size = 22 := by simpa [hq] using hi
  unfold loadMsg
  simp [loadVar,Sem.run_bind,hagg,sizeOf,typeInfo,hq,hs,hl,msgAt]
theorem msgIn_of {w : World} {a : Addr} {cs : List Value} (hn : cs.length = 22) (h : ∀ j u,cs[j]? = some u -> w.cell? (a.add j) = some u) : MsgIn w a /\ msgAt w a = cs.toArray := by
 refine ⟨fun j hj => ?_,?_⟩
 ·rw [h j _ (List.getElem?_eq_getElem (by omega))];rfl
 ·unfold msgAt
  congr 1
  apply List.ext_getElem?
  intro j
  rcases Nat.lt_or_ge j 22 with hj | hj
  ·rw [List.getElem?_map,List.getElem?_range hj,List.getElem?_eq_getElem (by omega : j < cs.length)]
   simp [h j _ (List.getElem?_eq_getElem (by omega : j < cs.length))]
  ·rw [List.getElem?_eq_none (by simpa using hj),List.getElem?_eq_none (by omega)]
theorem run_loadMsg_at (w : World) (a : Addr) (cs : List Value) (hn : cs.length = 22) (h : ∀ j u,cs[j]? = some u -> w.cell? (a.add j) = some u) : (loadMsg a).run Tryz.prog w = .ok (.agg cs.toArray) w := by
 obtain ⟨h1,h2⟩ := msgIn_of hn h
 rw [run_loadMsg w a h1,h2]
theorem run_loadMsg_has (w : World) (g : Nat) (x : MsgR) (h : Has w g 46 (xcell x).toArray) : (loadMsg ⟨g,0,none⟩).run Tryz.prog w = .ok (.agg (xcell x).toArray) w := by
 refine run_loadMsg_at w _ _ rfl fun j u hu => ?_
 have e1 : ((⟨g,0,none⟩ : Addr).add j) = ⟨g,j,none⟩ := by unfold Addr.add;split <;> simp_all
 rw [e1,h.cell]
 simpa using hu
theorem run_loadMsg_act (w : World) (g : Nat) (a : ActR) (h : Has w g 48 (acell a).toArray) : (loadMsg ⟨g,2,none⟩).run Tryz.prog w = .ok (.agg (xcell a.x).toArray) w := by
 refine run_loadMsg_at w _ _ rfl fun j u hu => ?_
 have e1 : ((⟨g,2,none⟩ : Addr).add j) = ⟨g,2 + j,none⟩ := by unfold Addr.add;split <;> simp_all
 have hj : (acell a)[2 + j]? = some u := by
  unfold acell
  rw [show 2 + j = j + 1 + 1 by omega,List.getElem?_cons_succ,List.getElem?_cons_succ]
  exact hu
 rw [e1,h.cell]
 simpa using hj
theorem run_loadMsg_row (w : World) (A : Option Addr) (l : List ActR) (hl : Src w 24 A l.length (acells l)) (i : Nat) (x : ActR) (hx : l[i]? = some x) :
  ∃ ad,A = some ad /\ ad.block < w.heap.size /\ (loadMsg ⟨(ad.add (i * 24)).block,(ad.add (i * 24)).off + 2,none⟩).run Tryz.prog w = .ok (.agg (xcell x.x).toArray) w /\ w.cell? (ad.add (i * 24)) = some (.int .i64 x.k) /\ w.cell? ⟨(ad.add (i * 24)).block,(ad.add (i * 24)).off + 1,none⟩ = some (.int .i64 x.n) := by
 obtain ⟨hi,_⟩ := List.getElem?_eq_some_iff.1 hx
 obtain ⟨ad,rfl,had,hc⟩ := act_cells hl (by omega) i x hx
 refine ⟨ad,rfl,had,?_,?_,?_⟩
 ·refine run_loadMsg_at w _ _ rfl fun j u hu => ?_
  have hj : (acell x)[2 + j]? = some u := by
   unfold acell
   rw [show 2 + j = j + 1 + 1 by omega,List.getElem?_cons_succ,List.getElem?_cons_succ]
   exact hu
  have h1 := hc (2 + j) u hj
  have e1 : ((⟨(ad.add (i * 24)).block,(ad.add (i * 24)).off + 2,none⟩ : Addr).add j) = (ad.add (i * 24)).add (2 + j) := by
   rw [add_lit _ (by omega : 0 < 2 + j)]
   unfold Addr.add
   split <;> simp_all <;> omega
  rw [e1];exact h1
 ·have h1 := hc 0 _ rfl
  have e1 : (ad.add (i * 24)).add 0 = ad.add (i * 24) := by rw [add_add];rfl
  rw [e1] at h1;exact h1
 ·have h1 := hc 1 _ rfl
  rw [add_lit _ (by omega)] at h1;exact h1
def actAt (w : World) (a : Addr) : Array Value := ((List.range 24).map fun j => (w.cell? (a.add j)).getD undef).toArray
def ActIn (w : World) (a : Addr) : Prop := ∀ j,j < 24 -> (w.cell? (a.add j)).isSome = true
def loadAct (a : Addr) : Sem Value := loadVar 48 a
theorem loadVar_act (a : Addr) : loadVar 48 a = loadAct a := rfl
theorem run_loadAct (w : World) (a : Addr) (h : ActIn w a) : (loadAct a).run Tryz.prog w = .ok (.agg (actAt w a)) w := by
 have hl := run_loadCells (P := Tryz.prog) w a 24 (fun j => (w.cell? (a.add j)).getD undef) (fun j hj => by
  obtain ⟨v,hv⟩ := Option.isSome_iff_exists.1 (h j hj)
  rw [hv];rfl)
 have hi : (Tryz.prog.info? 48).map (·.size) = some 24 := by kernel_rfl
 have hagg : ∀ W,(isAgg 48).run Tryz.prog W = .ok true W := fun W => by
  unfold isAgg
  rw [Sem.run_bind,run_underlying Tryz.underlying48 W]
  rfl
 cases hq : Tryz.prog.info? 48 with
 | none => simp [hq] at hi
 | some i =>
  have hs : i.size = 24 := by simpa [hq] using hi
  unfold loadAct
  simp [loadVar,Sem.run_bind,hagg,sizeOf,typeInfo,hq,hs,hl,actAt]
theorem actIn_of {w : World} {a : Addr} {cs : List Value} (hn : cs.length = 24) (h : ∀ j u,cs[j]? = some u -> w.cell? (a.add j) = some u) : ActIn w a /\ actAt w a = cs.toArray := by
 refine ⟨fun j hj => ?_,?_⟩
 ·rw [h j _ (List.getElem?_eq_getElem (by omega))];rfl
 ·unfold actAt
  congr 1
  apply List.ext_getElem?
  intro j
  rcases Nat.lt_or_ge j 24 with hj | hj
  ·rw [List.getElem?_map,List.getElem?_range hj,List.getElem?_eq_getElem (by omega : j < cs.length)]
   simp [h j _ (List.getElem?_eq_getElem (by omega : j < cs.length))]
  ·rw [List.getElem?_eq_none (by simpa using hj),List.getElem?_eq_none (by omega)]
theorem run_loadAct_row (w : World) (A : Option Addr) (l : List ActR) (hl : Src w 24 A l.length (acells l)) (i : Nat) (x : ActR) (hx : l[i]? = some x) :
  ∃ ad,A = some ad /\ ad.block < w.heap.size /\ (loadAct (ad.add (i * 24))).run Tryz.prog w = .ok (.agg (acell x).toArray) w := by
 obtain ⟨hi,_⟩ := List.getElem?_eq_some_iff.1 hx
 obtain ⟨ad,rfl,had,hc⟩ := act_cells hl (by omega) i x hx
 obtain ⟨h1,h2⟩ := actIn_of (cs := acell x) rfl hc
 exact ⟨ad,rfl,had,by rw [run_loadAct w _ h1,h2]⟩
end Mas
end Go.Proofs.YtolkgbafebehfaaGreat

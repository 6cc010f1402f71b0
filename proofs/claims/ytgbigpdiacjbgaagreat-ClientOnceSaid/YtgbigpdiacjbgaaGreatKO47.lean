/- Part 48 of what the proof needs. -/
import Derived.Test.YtgbigpdiacjbgaaGreatKO06
import Derived.Test.YtgbigpdiacjbgaaGreatKO21
import Derived.Test.YtgbigpdiacjbgaaGreatKO36
import Derived.Test.YtgbigpdiacjbgaaGreatKO46
set_option linter.unusedSimpArgs false
set_option linter.unusedVariables false
set_option maxHeartbeats 32000000
set_option maxRecDepth 100000
namespace Go.Proofs.YtgbigpdiacjbgaaGreat
open Go.RowKit
set_option maxRecDepth 100000
namespace Ask
open Plan Ops Ent Msg MO Vn
theorem same_reply (w : World) (r : RepR) (A B : Option Addr) (c d : Nat) (ha : Src w 2 A r.ps.length (pcells r.ps)) (hb : Src w 2 B r.ps.length (pcells r.ps)) (hl : r.ps.length <= 1000) :
  Calls Tryz.prog 16 #[ragg r A c,ragg r B d] w fun e w' => e = .returned (.bool true) /\ Kept NoF w w' := by
 obtain ⟨W9,hW9⟩ : ∃ W9,w.alloc (.cells (rcell r A c).toArray 36) = W9 := ⟨_,rfl⟩
 have hk9 : Kept NoF w W9 := by rw [<- hW9];(repeat' (first | (with_reducible first | exact kR0 | apply kP0 | apply kN0 | apply kD0 | apply kA0) | (right;simp;done)))
 have hn9 : Has W9 w.heap.size 36 (rcell r A c).toArray := by rw [<- hW9];exact Has.new _ _ _
 have hz9 : W9.heap.size = w.heap.size + 1 := by rw [<- hW9];simp
 obtain ⟨W0,hW0⟩ : ∃ W0,W9.alloc (.cells (rcell r B d).toArray 36) = W0 := ⟨_,rfl⟩
 have hk1 : Kept NoF W9 W0 := by rw [<- hW0];(repeat' (first | (with_reducible first | exact kR0 | apply kP0 | apply kN0 | apply kD0 | apply kA0) | (right;simp;done)))
 have hk0 := hk9.then hk1
 have hm0 : Has W0 W9.heap.size 36 (rcell r B d).toArray := by rw [<- hW0];exact Has.new _ _ _
 have hn0 := hn9.kept hk1 (fun z => z)
 obtain ⟨b1,hb1⟩ : ∃ b1,w.heap.size = b1 := ⟨_,rfl⟩
 obtain ⟨b2,hb2⟩ : ∃ b2,W9.heap.size = b2 := ⟨_,rfl⟩
 rw [hb1] at hn0
 rw [hb2] at hm0
 have g0 := hn0.cell 0;have g1 := hn0.cell 1;have g2 := hn0.cell 2;have g3 := hn0.cell 3;have g4 := hn0.cell 4
 have f0 := hm0.cell 0;have f1 := hm0.cell 1;have f2 := hm0.cell 2;have f3 := hm0.cell 3;have f4 := hm0.cell 4
 simp [rcell] at g0 g1 g2 g3 g4 f0 f1 f2 f3 f4
 have hs := rsamePairs_any W0 A B c d r.ps r.ps (ha.kept hk0 (fun _ _ z => z)) (hb.kept hk0 (fun _ _ z => z)) (by omega)
 rw [decide_eq_true rfl] at hs
 have HS := hZ0 hs;have HK0 := hZ0 hk0
 have e1 : (r.req == r.req) = true := by simp
 have e2 : (r.e == r.e) = true := by simp
 have e3 : (r.at' == r.at') = true := by simp
 have e4 : (r.pin == r.pin) = true := by simp
 unfold rcell at hW0 hW9
 unfold ragg rcell
 clear hs hk0 ha hb hl hk9 hk1 hn9 hn0 hm0 hz9
 go_enter Tryz.func16,Tryz.ntmps16
 go_wp2_with fail
 refine HS.out.mono ?_
 rintro e w2 ⟨rfl,hk⟩
 have HK := hZ0 (HK0.out.then hk);clear hk
 go_wp2
 go_ret
 exact ⟨rfl,HK.out⟩
end Ask
end Go.Proofs.YtgbigpdiacjbgaaGreat
namespace Go.Proofs.YtgbigpdiacjbgaaGreat
open Go.ChangeShapes Go.WideShapes Go.ChangeAt
open Go.RowKit
set_option maxRecDepth 100000
namespace Cli
open Plan Ops Ent Msg MO Vn Go.Proofs.YtgbigpdiacjbgaaGreat.Ask
def AGoodC (w : World) (x : ActC) : Prop := QGood w x.a /\ I64 x.k /\ I64 x.fr /\ x.body.size <= maxLen
theorem u8r {x : Int} (h : (Lit.int .u8 x).wf = true) : 0 <= x /\ x <= 255 := by
 simpa [Lit.wf,IntKind.min,IntKind.max,IntKind.signed,IntKind.bits] using h
section
variable {H : Type} {enc : TypeId × Value -> H} {W : World} {v : Value} {d : DataW H} {ps : List MemPlace} {r : Reach} {b0 : Nat}
theorem open_act0C (fuel : Nat) (cs : List Value) (y : DataW H × List MemPlace) (hy : DataW.trod enc Tryz.prog W 0 (fun _ => true) true fuel 28 cs = some y) : ∃ a,cs = acellC a /\ AGoodC W a := by
 obtain ⟨hl,n,hf⟩ := trod_fld Tryz.underlying28 hy
 have hC : Tryz.prog.cellsOf 28 = 10 := by kernel_rfl
 rw [hC] at hl
 have e3 : Tryz.prog.cellsOf 3 = 1 := by kernel_rfl
 have e9 : Tryz.prog.cellsOf 9 = 1 := by kernel_rfl
 have eA : Tryz.prog.cellsOf 25 = 7 := by kernel_rfl
 match cs,hl with
 | [c0,c1,c2,c3,c4,c5,c6,c7,c8,c9],_ =>
  obtain ⟨_,h0⟩ := hf 0 _ rfl
  obtain ⟨z1,h1⟩ := hf 1 _ rfl
  obtain ⟨_,h2⟩ := hf 2 _ rfl
  obtain ⟨_,h3⟩ := hf 3 _ rfl
  obtain ⟨x0,hx0,_,m0⟩ := DataW.trod_int Tryz.underlying3 h0
  obtain ⟨x2,hx2,_,m2⟩ := DataW.trod_int Tryz.underlying3 h2
  obtain ⟨x3,hx3,_,m3⟩ := DataW.trod_string Tryz.underlying9 h3
  simp [e3] at hx0 hx2
  simp [e9] at hx3
  have h1' : DataW.trod enc Tryz.prog W 0 (fun _ => true) true n 25 ([c1,c2,c3,c4,c5,c6,c7,c8,c9].take (Tryz.prog.cellsOf 25)) = some z1 := h1
  rw [eA] at h1'
  subst hx0 hx2 hx3
  obtain ⟨x,hx,hg⟩ := open_ask0 _ _ _ h1'
  refine ⟨⟨x0,x,x2,x3⟩,?_,hg,m0,m2,m3⟩
  unfold acellC
  dsimp only
  rw [<- hx]
  rfl
theorem open_actsC (hv : Value.okWide Tryz.prog W r b0 29 v) (h : DataW.Trod enc Tryz.prog W 0 (fun _ => true) true 29 v d ps) :
  ∃ (A : Option Addr) (c : Nat) (l : List ActC),v = .slice A l.length c /\ l.length <= c /\ c <= maxLen /\ Src W 10 A l.length (acellsC l) /\ (∀ x ∈ l,AGoodC W x) := by
 have _ : Inhabited ActC := ⟨⟨0,⟨0,0,⟨#[]⟩,⟨#[]⟩,0,0,none,0,[]⟩,0,⟨#[]⟩⟩⟩
 obtain ⟨A,c,l,h1,h2,h3,h4,h5,_⟩ := open_rows (α := ActC) acellC (AGoodC W) 10 Tryz.underlying29 (by kernel_rfl) (by decide) (fun _ => rfl) open_act0C h (okWide_slice Tryz.underlying29 hv)
 exact ⟨A,c,l,h1,h2,h3,h4,h5⟩
end
end Cli
end Go.Proofs.YtgbigpdiacjbgaaGreat

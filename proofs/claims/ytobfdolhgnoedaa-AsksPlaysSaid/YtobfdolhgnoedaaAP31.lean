/- Part 32 of what the proof needs. -/
import Derived.Test.YtobfdolhgnoedaaAP27
import Derived.Test.YtobfdolhgnoedaaAP30
set_option linter.unusedSimpArgs false
set_option linter.unusedVariables false
set_option maxHeartbeats 32000000
set_option maxRecDepth 100000
namespace Go.Proofs.Ytobfdolhgnoedaa
open Go.RowKit
set_option maxRecDepth 100000
namespace Ask
open Plan Ops Ent Msg MO Vn
attribute [local go_sem ↓] storeVar_msg loadVar_msg
theorem same_reply (w : World) (r : RepR) (A B : Option Addr) (c d : Nat) (ha : Src w 2 A r.ps.length (pcells r.ps)) (hb : Src w 2 B r.ps.length (pcells r.ps)) (hl : r.ps.length <= 1000) :
  Calls Try.prog 21 #[ragg r A c,ragg r B d] w fun e w' => e = .returned (.bool true) /\ Kept NoF w w' := by
 obtain ⟨W9,hW9⟩ : ∃ W9,w.alloc (.cells (rcell r A c).toArray 46) = W9 := ⟨_,rfl⟩
 have hk9 : Kept NoF w W9 := by rw [<- hW9];(repeat' (first | (with_reducible first | exact kR0 | apply kP0 | apply kN0 | apply kD0 | apply kA0) | (right;simp;done)))
 have hn9 : Has W9 w.heap.size 46 (rcell r A c).toArray := by rw [<- hW9];exact Has.new _ _ _
 have hz9 : W9.heap.size = w.heap.size + 1 := by rw [<- hW9];simp
 obtain ⟨W0,hW0⟩ : ∃ W0,W9.alloc (.cells (rcell r B d).toArray 46) = W0 := ⟨_,rfl⟩
 have hk1 : Kept NoF W9 W0 := by rw [<- hW0];(repeat' (first | (with_reducible first | exact kR0 | apply kP0 | apply kN0 | apply kD0 | apply kA0) | (right;simp;done)))
 have hk0 := hk9.then hk1
 have hm0 : Has W0 W9.heap.size 46 (rcell r B d).toArray := by rw [<- hW0];exact Has.new _ _ _
 have hn0 := hn9.kept hk1 (fun z => z)
 obtain ⟨b1,hb1⟩ : ∃ b1,w.heap.size = b1 := ⟨_,rfl⟩
 obtain ⟨b2,hb2⟩ : ∃ b2,W9.heap.size = b2 := ⟨_,rfl⟩
 rw [hb1] at hn0
 rw [hb2] at hm0
 have g0 := hn0.cell 0;have g1 := hn0.cell 1;have g2 := hn0.cell 2;have g3 := hn0.cell 3;have g4 := hn0.cell 4
 have f0 := hm0.cell 0;have f1 := hm0.cell 1;have f2 := hm0.cell 2;have f3 := hm0.cell 3;have f4 := hm0.cell 4
 simp [rcell] at g0 g1 g2 g3 g4 f0 f1 f2 f3 f4
 have hs := rsamePairs_any W0 A B c d r.ps r.ps (ha.kept hk0 (fun _ _ z => z)) (hb.kept hk0 (fun _ _ z => z)) (by omega)
 rw [decide_eq_true rfl] at hs
 have HS := hZ0 hs;have HK0 := hZ0 hk0
 have e1 : (r.req == r.req) = true := by simp
 have e2 : (r.e == r.e) = true := by simp
 have e3 : (r.at' == r.at') = true := by simp
 have e4 : (r.pin == r.pin) = true := by simp
 unfold rcell at hW0 hW9
 unfold ragg rcell
 clear hs hk0 ha hb hl hk9 hk1 hn9 hn0 hm0 hz9
 go_enter Try.func21,Try.ntmps21
 go_wp2_with fail
 refine HS.out.mono ?_
 rintro e w2 ⟨rfl,hk⟩
 have HK := hZ0 (HK0.out.then hk);clear hk
 go_wp2
 go_ret
 exact ⟨rfl,HK.out⟩
theorem msgIn_row (w : World) (A : Option Addr) (l : List ActR) (hl : Src w 25 A l.length (acells l)) (i : Nat) (x : ActR) (hx : l[i]? = some x) :
  ∃ ad,A = some ad /\ MsgIn w ⟨(ad.add (i * 25)).block,(ad.add (i * 25)).off + 3,none⟩ /\ msgAt w ⟨(ad.add (i * 25)).block,(ad.add (i * 25)).off + 3,none⟩ = (xcell x.x).toArray := by
 obtain ⟨hi,_⟩ := List.getElem?_eq_some_iff.1 hx
 obtain ⟨ad,rfl,had,hc⟩ := act_cells hl (by omega) i x hx
 refine ⟨ad,rfl,msgIn_of rfl fun j u hu => ?_⟩
 have hj : (acell x)[3 + j]? = some u := by
  unfold acell
  rw [show 3 + j = j + 1 + 1 + 1 by omega,List.getElem?_cons_succ,List.getElem?_cons_succ,List.getElem?_cons_succ]
  exact hu
 have h1 := hc (3 + j) u hj
 have e1 : ((⟨(ad.add (i * 25)).block,(ad.add (i * 25)).off + 3,none⟩ : Addr).add j) = (ad.add (i * 25)).add (3 + j) := by
  rw [add_lit _ (by omega : 0 < 3 + j)]
  unfold Addr.add
  split <;> simp_all <;> omega
 rw [e1];exact h1
theorem act_off {w : World} {A : Option Addr} {l : List ActR} (hl : Src w 25 A l.length (acells l)) {i : Nat} {x : ActR} (hx : l[i]? = some x) (hg : MGood w x.x) {F : Nat -> Prop} (hf : ∀ k,F k -> w.heap.size <= k) {W : World} (hk : Kept NoF w W) : PGood W F x.x :=
 ⟨hg.p.kept hk (fun _ _ z => z),hg.pcap,fun h0 ad e hF => by
  obtain ⟨ad2,e2,h2,-⟩ := hg.p.2 h0
  rw [e] at e2;injection e2 with e2
  have := hf _ hF
  rw [e2] at this;omega,fun y hy => (hg.pk y hy).1⟩
attribute [local go_sem] run_loadMsg
end Ask
end Go.Proofs.Ytobfdolhgnoedaa

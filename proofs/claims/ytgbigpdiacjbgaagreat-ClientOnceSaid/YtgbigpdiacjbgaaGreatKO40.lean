/- Part 41 of what the proof needs. -/
import Derived.Test.YtgbigpdiacjbgaaGreatKO14
import Derived.Test.YtgbigpdiacjbgaaGreatKO26
import Derived.Test.YtgbigpdiacjbgaaGreatKO39
set_option linter.unusedSimpArgs false
set_option linter.unusedVariables false
set_option maxHeartbeats 32000000
set_option maxRecDepth 100000
namespace Go.Proofs.YtgbigpdiacjbgaaGreat
open Go.RowKit
set_option maxRecDepth 100000
namespace Wire
theorem DdAt.kept {F : Nat -> Prop} {w w' : World} {g : Nat} {s : ByteArray} {r : Ops.RS} (h : DdAt w g s r) (hk : Kept F w w') (hf : ¬ F g) : DdAt w' g s r := ⟨h.1.kept hk hf,h.2⟩
end Wire
namespace Ops
open Vn Wire
def Dt (w : World) (s : ByteArray) (g x y B : Nat) (c q : Int) (r : RS) (A : Option Addr) (cap : Nat) (l : List OpR) (W : World) : Prop :=
 DdAt W g s r /\ Has W x 59 #[.int .i64 c,.int .i64 q,.slice A l.length cap] /\ Has W y 59 #[.int .i64 0,.int .i64 0,.slice none 0 0] /\ NewSl 143 3 B W A l.length cap (cells l) /\ Kept NoF w W
section
variable {w W W' : World} {s : ByteArray} {g x y B cap : Nat} {c q : Int} {r r' : RS} {A : Option Addr} {l : List OpR} {v : Value} {e : Ending}
theorem Dt.read (o : Ord w g x y B) (h : Dt w s g x y B c q r A cap l W) (hr : DRead W g s v r' e W') : e = .returned v /\ Dt w s g x y B c q r' A cap l W' /\ Kept (fun k => k = g) W W' := by
 obtain ⟨h1,h2,h3,h4,h5⟩ := h
 obtain ⟨he,g1,g2⟩ := hr
 refine ⟨he,⟨g1,h2.kept g2 (fun e => o.gx e.symm),h3.kept g2 (fun e => o.gy e.symm),⟨own_kept h4.1 g2 (fun k hk e => ?_),h4.2⟩,h5.trans g2 fun i hi => by rw [hi];exact .inr o.wg⟩,g2⟩
 have := h4.2 k hk
 have := o.gB
 omega
theorem Dt.keep (h : Dt w s g x y B c q r A cap l W) (hk : Kept NoF W W') : Dt w s g x y B c q r A cap l W' :=
 ⟨h.1.kept hk (fun z => z),h.2.1.kept hk (fun z => z),h.2.2.1.kept hk (fun z => z),h.2.2.2.1.kept hk,h.2.2.2.2.then hk⟩
theorem Dt.ge (o : Ord w g x y B) (h : Dt w s g x y B c q r A cap l W) : B <= W.heap.size := by
 have := h.2.1.lt
 have := o.Bx
 omega
theorem Dt.row (h : Dt w s g x y B c q r A cap l W) : ∀ k,(Value.slice A l.length cap).ownBlock = some k -> k < W.heap.size := fun k hk => own_lt h.2.2.2.1.1 hk
theorem Dt.setq {q' : Int} (o : Ord w g x y B) (h : Dt w s g x y B c q r A cap l W) : Dt w s g x y B c q' r A cap l (W.setCell ⟨x,1,none⟩ (.int .i64 q')) := by
 obtain ⟨h1,h2,h3,h4,h5⟩ := h
 have hk : Kept (fun k => k = x) W (W.setCell ⟨x,1,none⟩ (.int .i64 q')) := (Kept.refl _ W).put (.inl rfl)
 refine ⟨h1.kept hk o.gx,Has.put_of h2 rfl,h3.kept hk (fun e => o.xy e.symm),⟨own_kept h4.1 hk (fun k hk e => ?_),h4.2⟩,h5.trans hk fun i hi => by rw [hi];exact .inr o.wx⟩
 have := h4.2 k hk
 have := o.xB
 omega
theorem Dt.setc {c' : Int} (o : Ord w g x y B) (h : Dt w s g x y B c q r A cap l W) : Dt w s g x y B c' q r A cap l (W.setCell ⟨x,0,none⟩ (.int .i64 c')) := by
 obtain ⟨h1,h2,h3,h4,h5⟩ := h
 have hk : Kept (fun k => k = x) W (W.setCell ⟨x,0,none⟩ (.int .i64 c')) := (Kept.refl _ W).put (.inl rfl)
 refine ⟨h1.kept hk o.gx,Has.put_of h2 rfl,h3.kept hk (fun e => o.xy e.symm),⟨own_kept h4.1 hk (fun k hk e => ?_),h4.2⟩,h5.trans hk fun i hi => by rw [hi];exact .inr o.wx⟩
 have := h4.2 k hk
 have := o.xB
 omega
theorem Dt.far (o : Ord w g x y B) (h : Dt w s g x y B c q r A cap l W) {z : Nat} (hz : B <= z) (hr : ∀ k,(Value.slice A l.length cap).ownBlock = some k -> k < z) (i : Nat) (u : Value) : Dt w s g x y B c q r A cap l (W.setCell ⟨z,i,none⟩ u) := by
 obtain ⟨h1,h2,h3,h4,h5⟩ := h
 have hk : Kept (fun k => k = z) W (W.setCell ⟨z,i,none⟩ u) := (Kept.refl _ W).put (.inl rfl)
 have b1 := o.gB
 have b2 := o.xB
 have b3 := o.yB
 have b4 := o.wg
 refine ⟨h1.kept hk (by omega),h2.kept hk (by omega),h3.kept hk (by omega),⟨own_kept h4.1 hk (fun k hk e => ?_),h4.2⟩,h5.trans hk fun i hi => by rw [hi];exact .inr (by omega)⟩
 have := hr k hk
 omega
theorem Dt.append (o : Ord w g x y B) (h : Dt w s g x y B c q r A cap l W) {W1 : World} (hW : Kept NoF W W1) {A' : Option Addr} {cap' : Nat} {w6 : World} {p : OpR} (ho : w6.ownsRow 0 143 3 (.slice A' (l.length + 1) cap') (l.length + 1) (Ops.cells l ++ [.string p.key,.string p.val,.bool p.del]))
  (hg : W1.grownBy w6 (Value.slice A l.length cap).ownBlock) (ha : (Value.slice A' (l.length + 1) cap').ownBlock = (Value.slice A l.length cap).ownBlock \/ (Value.slice A' (l.length + 1) cap').ownBlock = some W1.heap.size) :
  Has w6 x 59 #[.int .i64 c,.int .i64 q,.slice A l.length cap] /\ Dt w s g x y B c q r A' cap' (l ++ [p]) (w6.setCell ⟨x,2,none⟩ (.slice A' (l.length + 1) cap')) := by
 have hge := h.ge o
 obtain ⟨h1,h2,h3,h4,h5⟩ := h
 have hz1 := hW.size
 have hk : Kept (fun k => (Value.slice A l.length cap).ownBlock = some k) W w6 := (hW.mono fun _ z => z.elim).grown hg (fun k hk => .inl hk)
 have b1 := o.gB
 have b2 := o.xB
 have b3 := o.yB
 have hn : ∀ z,z < B -> ¬ (Value.slice A l.length cap).ownBlock = some z := fun z hz e => by have := h4.2 z e;omega
 have g1 := h1.kept hk (hn g b1)
 have g2 := h2.kept hk (hn x b2)
 have g3 := h3.kept hk (hn y b3)
 have g5 : Kept NoF w w6 := h5.trans hk fun i hi => .inr (by have := h4.2 i hi;have := o.wg;omega)
 have hk2 : Kept (fun k => k = x) w6 (w6.setCell ⟨x,2,none⟩ (.slice A' (l.length + 1) cap')) := (Kept.refl _ w6).put (.inl rfl)
 have hnew : NewSl 143 3 B w6 A' (l ++ [p]).length cap' (Ops.cells (l ++ [p])) := by
  rw [cells_snoc,List.length_append]
  exact ⟨ho,fun k hk => by
   rcases ha with e | e
   ·exact h4.2 k (e.symm.trans hk)
   ·have hk' : (Value.slice A' (l.length + 1) cap').ownBlock = some k := hk
    rw [hk'] at e
    injection e with e
    omega⟩
 refine ⟨g2,g1.kept hk2 o.gx,Has.put_of g2 (by simp),g3.kept hk2 (fun e => o.xy e.symm),⟨own_kept hnew.1 hk2 (fun k hk e => ?_),hnew.2⟩,g5.trans hk2 fun i hi => by rw [hi];exact .inr o.wx⟩
 have := hnew.2 k hk
 omega
theorem Dt.cells (h : Dt w s g x y B c q r A cap l W) : (W.cell? ⟨x,0,none⟩ = some (.int .i64 c) /\ W.cell? ⟨x,1,none⟩ = some (.int .i64 q) /\ W.cell? ⟨x,2,none⟩ = some (.slice A l.length cap)) /\ W.frozen? ⟨x,2,none⟩ = false /\
  (W.cell? ⟨y,0,none⟩ = some (.int .i64 0) /\ W.cell? ⟨y,1,none⟩ = some (.int .i64 0) /\ W.cell? ⟨y,2,none⟩ = some (.slice none 0 0)) /\ (W.frozen? ⟨y,0,none⟩ = false /\ W.frozen? ⟨y,1,none⟩ = false /\ W.frozen? ⟨y,2,none⟩ = false) :=
 ⟨⟨h.2.1.cell 0,h.2.1.cell 1,h.2.1.cell 2⟩,h.2.1.frozen 2,⟨h.2.2.1.cell 0,h.2.2.1.cell 1,h.2.2.1.cell 2⟩,h.2.2.1.frozen 0,h.2.2.1.frozen 1,h.2.2.1.frozen 2⟩
end
theorem rof_new (w : World) (s : ByteArray) (hs : s.size <= maxLen) : Calls Tryz.prog 109 #[.string s] w (ReadN w s) := by
 obtain ⟨cq,hcq⟩ : ∃ cq,rNum s 2 (0,0) = cq := ⟨_,rfl⟩
 obtain ⟨qq,hqq⟩ : ∃ qq,rNum s 1073741824 cq.2 = qq := ⟨_,rfl⟩
 obtain ⟨nq,hnq⟩ : ∃ nq,rNum s 4 qq.2 = nq := ⟨_,rfl⟩
 have hn4 : nq.1 <= 4 := by rw [<- hnq];exact rNum_le _ _ _
 have hq4 : qq.1 <= 1073741824 := by rw [<- hqq];exact rNum_le _ _ _
 have hc4 : cq.1 <= 2 := by rw [<- hcq];exact rNum_le _ _ _
 obtain ⟨c,r1⟩ := cq
 obtain ⟨q,r2⟩ := qq
 obtain ⟨n,r3⟩ := nq
 dsimp only at hqq hnq hn4 hq4 hc4
 have hof : ofB s = if rEnd s (rOps s n r3).2 ≠ 0 then (zero,rEnd s (rOps s n r3).2) else if chk ⟨c,q,(rOps s n r3).1⟩ ≠ 0 then (zero,chk ⟨c,q,(rOps s n r3).1⟩) else (⟨c,q,(rOps s n r3).1⟩,0) := by
  unfold ofB
  simp only [hcq,hqq,hnq]
 have HOF := hZ0 hof;clear hof
 have HCQ := hZ0 (And.intro hcq (And.intro hqq hnq));clear hcq hqq hnq
 have ho : Ord w (w.heap.size + 1) (w.heap.size + 1 + 1) w.heap.size (w.heap.size + 1 + 1 + 1) := ⟨by omega,by omega,by omega,by omega,by omega,by omega,by omega,by omega,by omega,rfl⟩
 have hst : Dt w s (w.heap.size + 1) (w.heap.size + 1 + 1) w.heap.size (w.heap.size + 1 + 1 + 1) 0 0 (0,0) none 0 [] (((w.alloc (.cells #[.int .i64 0,.int .i64 0,.slice none 0 0] 59)).alloc (.cells #[.string s,.int .i64 0,.int .i64 0] 91)).alloc (.cells #[.int .i64 0,.int .i64 0,.slice none 0 0] 59)) :=
  ⟨⟨(Has.new_at _ _ _ (by simp)).alloc _,Nat.zero_le _⟩,Has.new_at _ _ _ (by simp),((Has.new _ _ _).alloc _).alloc _,⟨⟨rfl,.inl ⟨rfl,rfl⟩⟩,fun k hk => by cases hk⟩,by (repeat' (first | (with_reducible first | exact kR0 | apply kP0 | apply kN0 | apply kD0 | apply kA0) | (right;simp;done)))⟩
 go_enter Tryz.func109,Tryz.ntmps109
 go_wp2_with fail
 obtain ⟨W4,hW4⟩ : ∃ W4,((w.alloc (.cells #[.int .i64 0,.int .i64 0,.slice none 0 0] 59)).alloc (.cells #[.string s,.int .i64 0,.int .i64 0] 91)).alloc (.cells #[.int .i64 0,.int .i64 0,.slice none 0 0] 59) = W4 := ⟨_,rfl⟩
 rw [hW4] at hst ⊢
 clear hW4
 obtain ⟨B,hB⟩ : ∃ B,w.heap.size + 1 + 1 + 1 = B := ⟨_,rfl⟩
 rw [hB] at hst ho
 clear hB
 obtain ⟨x,hx⟩ : ∃ x,w.heap.size + 1 + 1 = x := ⟨_,rfl⟩
 rw [hx] at hst ho ⊢
 clear hx
 obtain ⟨g,hg⟩ : ∃ g,w.heap.size + 1 = g := ⟨_,rfl⟩
 rw [hg] at hst ho ⊢
 clear hg
 obtain ⟨y,hy⟩ : ∃ y,w.heap.size = y := ⟨_,rfl⟩
 rw [hy] at hst ho ⊢
 clear hy
 have HO := hZ0 ho;clear ho
 have HST := hZ0 hst;clear hst
 refine (dnum_any _ g s (0,0) 2 HST.out.1 hs (by decide)).mono ?_
 intro e w3 hrd
 obtain ⟨rfl,hst,hk⟩ := HST.out.read HO.out hrd
 rw [HCQ.out.1] at hst ⊢
 dsimp only at hst ⊢
 clear HST hrd hk
 have x0 := hst.2.1.cell 0
 have xf := hst.2.1.frozen 0
 simp only [List.getElem?_toArray,List.getElem?_cons_zero] at x0
 have hst2 := hst.setc (c' := c) HO.out
 clear hst
 have HST := hZ0 hst2;clear hst2
 go_wp2_with fail
 clear x0 xf
 refine (dnum_any _ g s r1 1073741824 HST.out.1 hs (by decide)).mono ?_
 intro e w4 hrd
 obtain ⟨rfl,hst,hk⟩ := HST.out.read HO.out hrd
 rw [HCQ.out.2.1] at hst ⊢
 dsimp only at hst ⊢
 clear HST hrd hk
 have x1 := hst.2.1.cell 1
 have xf := hst.2.1.frozen 1
 simp only [List.getElem?_toArray,List.getElem?_cons_zero,List.getElem?_cons_succ] at x1
 have hst2 := hst.setq (q' := q) HO.out
 clear hst
 have HST := hZ0 hst2;clear hst2
 go_wp2_with fail
 clear x1 xf
 refine (dnum_any _ g s r2 4 HST.out.1 hs (by decide)).mono ?_
 intro e w5 hrd
 obtain ⟨rfl,hst,hk⟩ := HST.out.read HO.out hrd
 rw [HCQ.out.2.2] at hst ⊢
 dsimp only at hst ⊢
 clear HST hrd hk
 have HST := hZ0 hst;clear hst
 go_wp2_with fail
 go_loopw [7] (fun v7 wr => ∃ (i : Nat) (A : Option Addr) (cap : Nat),i <= n /\ v7 = .int .i64 i /\ Dt w s g x y B c q (rOps s i r3).2 A cap (rOps s i r3).1 wr) (fun v7 _ => n - (intOf v7).toNat)
 case atStart => exact ⟨0,none,0,Nat.zero_le _,rfl,HST.out⟩
 case round =>
  obtain ⟨i,A,cap,hi,rfl,hst⟩ := hrel
  clear HST
  have hlen := rOps_len s r3 i
  by_cases hin : i < n
  ·have hnext : rOps s (i + 1) r3 = ((rOps s i r3).1 ++ [(rOp s (rOps s i r3).2).1],(rOp s (rOps s i r3).2).2) := rfl
   obtain ⟨l,hl⟩ : ∃ l,(rOps s i r3).1 = l := ⟨_,rfl⟩
   obtain ⟨r,hr⟩ : ∃ r,(rOps s i r3).2 = r := ⟨_,rfl⟩
   rw [hl,hr] at hst hnext
   rw [hl] at hlen
   have hop : rOp s r = (⟨(rText s 8 r).1,(rText s 8 (rFlag s (rText s 8 r).2).2).1,(rFlag s (rText s 8 r).2).1⟩,(rText s 8 (rFlag s (rText s 8 r).2).2).2) := rfl
   obtain ⟨p1,hp1⟩ : ∃ p,rText s 8 r = p := ⟨_,rfl⟩
   obtain ⟨k1,ra⟩ := p1
   rw [hp1] at hop
   dsimp only at hop
   obtain ⟨p2,hp2⟩ : ∃ p,rFlag s ra = p := ⟨_,rfl⟩
   obtain ⟨d1,rb⟩ := p2
   rw [hp2] at hop
   dsimp only at hop
   obtain ⟨p3,hp3⟩ : ∃ p,rText s 8 rb = p := ⟨_,rfl⟩
   obtain ⟨v1,rc⟩ := p3
   rw [hp3] at hop
   dsimp only at hop
   rw [hop] at hnext
   dsimp only at hnext
   have HNX := hZ0 hnext;clear hnext hop hl hr
   have HP := hZ0 (And.intro hp1 (And.intro hp2 hp3));clear hp1 hp2 hp3
   have HST := hZ0 hst;clear hst
   have HLEN := hZ0 hlen;clear hlen
   have hge := HST.out.ge HO.out
   have hrow := HST.out.row
   have hz0 := Has.new wr 143 #[.string ⟨#[]⟩,.string ⟨#[]⟩,.bool false]
   have hst2 := HST.out.keep ((Kept.refl NoF wr).alloc (.cells #[.string ⟨#[]⟩,.string ⟨#[]⟩,.bool false] 143))
   clear HST
   go_wp2_with fail
   obtain ⟨W7,hW7⟩ : ∃ W7,wr.alloc (.cells #[.string ⟨#[]⟩,.string ⟨#[]⟩,.bool false] 143) = W7 := ⟨_,rfl⟩
   obtain ⟨z,hz⟩ : ∃ z,wr.heap.size = z := ⟨_,rfl⟩
   rw [hW7] at hst2 hz0 ⊢
   rw [hz] at hz0 hge hrow ⊢
   have HZ := hZ0 (And.intro hge hrow);clear hge hrow hz hW7
   have HST := hZ0 hst2;clear hst2
   have HZ0 := hZ0 hz0;clear hz0
   refine (dtext_any _ g s r 8 HST.out.1 hs (by decide)).mono ?_
   intro e w6 hrd
   obtain ⟨rfl,hst,hk⟩ := HST.out.read HO.out hrd
   rw [HP.out.1] at hst ⊢
   dsimp only at hst ⊢
   have hz1 := HZ0.out.kept hk (by have := HO.out.gB;have := HZ.out.1;omega)
   have z0 := hz1.cell 0
   have zf0 := hz1.frozen 0
   simp only [List.getElem?_toArray,List.getElem?_cons_zero,List.getElem?_cons_succ] at z0
   have hst2 := hst.far HO.out HZ.out.1 HZ.out.2 0 (.string k1)
   have hz2 : Has (w6.setCell ⟨z,0,none⟩ (.string k1)) z 143 #[.string k1,.string ⟨#[]⟩,.bool false] := Has.put_of hz1 rfl
   clear HST HZ0 hrd hk hst hz1
   have HST := hZ0 hst2;clear hst2
   have HZ0 := hZ0 hz2;clear hz2
   go_wp2_with fail
   clear z0 zf0
   refine (dflag_any _ g s ra HST.out.1 hs).mono ?_
   intro e w8 hrd
   obtain ⟨rfl,hst,hk⟩ := HST.out.read HO.out hrd
   rw [HP.out.2.1] at hst ⊢
   dsimp only at hst ⊢
   have hz1 := HZ0.out.kept hk (by have := HO.out.gB;have := HZ.out.1;omega)
   have z2 := hz1.cell 2
   have zf2 := hz1.frozen 2
   simp only [List.getElem?_toArray,List.getElem?_cons_zero,List.getElem?_cons_succ] at z2
   have hst2 := hst.far HO.out HZ.out.1 HZ.out.2 2 (.bool d1)
   have hz2 : Has (w8.setCell ⟨z,2,none⟩ (.bool d1)) z 143 #[.string k1,.string ⟨#[]⟩,.bool d1] := Has.put_of hz1 rfl
   clear HST HZ0 hrd hk hst hz1
   have HST := hZ0 hst2;clear hst2
   have HZ0 := hZ0 hz2;clear hz2
   go_wp2_with fail
   refine (dtext_any _ g s rb 8 HST.out.1 hs (by decide)).mono ?_
   intro e w9 hrd
   obtain ⟨rfl,hst,hk⟩ := HST.out.read HO.out hrd
   rw [HP.out.2.2] at hst ⊢
   dsimp only at hst ⊢
   have hz1 := HZ0.out.kept hk (by have := HO.out.gB;have := HZ.out.1;omega)
   have hst2 := hst.far HO.out HZ.out.1 HZ.out.2 1 (.string v1)
   have hz2 : Has (w9.setCell ⟨z,1,none⟩ (.string v1)) z 143 #[.string k1,.string v1,.bool d1] := Has.put_of hz1 rfl
   clear z2 zf2
   have z1 := hz1.cell 1
   have zf1 := hz1.frozen 1
   simp only [List.getElem?_toArray,List.getElem?_cons_zero,List.getElem?_cons_succ] at z1
   have zz0 := hz2.cell 0
   have zz1 := hz2.cell 1
   have zz2 := hz2.cell 2
   simp only [List.getElem?_toArray,List.getElem?_cons_zero,List.getElem?_cons_succ] at zz0 zz1 zz2
   have xx2 := hst2.cells.1.2.2
   clear HST HZ0 hrd hk hst hz1 hz2
   have HST := hZ0 hst2;clear hst2
   have hm1 : l.length + 1 <= maxLen := by rw [HLEN.out];unfold maxLen;omega
   have hm2 : (l.length + 1) * 40 <= 140737488355328 := by rw [HLEN.out];omega
   have HM1 := hZ0 hm1;clear hm1
   have HM2 := hZ0 hm2;clear hm2
   go_wp2_with (at_builtin;refine list_append_src elemOp (.tmp 39) (.tmp 41) rfl rfl (Value.slice A l.length cap) rfl ((HST.out.2.2.2.1.kept ((Kept.refl _ _).alloc _)).1) 1 rfl (Src.of_has (m := 1) (cs := #[.string k1,.string v1,.bool d1]) (Has.new_at _ 143 _ (by simp)) rfl) (by intro u hu;simp at hu;rcases hu with rfl | rfl | rfl <;> rfl) HM1.out HM2.out ?_;intro A6 c6 w10 ho6 hg6 ha6;obtain ⟨hx6,hst6⟩ := HST.out.append HO.out (p := ⟨k1,v1,d1⟩) ((Kept.refl _ _).alloc _) ho6 hg6 ha6;have e2 := hx6.cell 2;have ef := hx6.frozen 2;simp only [List.getElem?_toArray,List.getElem?_cons_zero,List.getElem?_cons_succ] at e2;have HS6 := hZ0 hst6;clear ho6 hg6 ha6 hx6 hst6)
   go_roundw
   case rel => exact ⟨i + 1,A6,c6,by omega,by go_num,by rw [HNX.out];exact HS6.out⟩
   case measure => simp [intOf];omega
  ·obtain rfl : i = n := by omega
   obtain ⟨l,hl⟩ : ∃ l,(rOps s i r3).1 = l := ⟨_,rfl⟩
   obtain ⟨r,hr⟩ : ∃ r,(rOps s i r3).2 = r := ⟨_,rfl⟩
   rw [hl,hr] at hst HOF
   rw [hl] at hlen
   clear hl hr
   have HST := hZ0 hst;clear hst
   have HLEN := hZ0 hlen;clear hlen
   go_wp2_with fail
   refine (dend_any _ g s r HST.out.1 hs).mono ?_
   rintro e w6 ⟨rfl,hk⟩
   have hst := HST.out.keep hk
   clear HST hk
   obtain ⟨⟨x0,x1,x2⟩,xf,⟨y0,y1,y2⟩,yf0,yf1,yf2⟩ := hst.cells
   have HST := hZ0 hst;clear hst
   have hky : ∀ W,Kept NoF w W -> ∀ a b c,Kept NoF w (((W.setCell ⟨y,0,none⟩ a).setCell ⟨y,1,none⟩ b).setCell ⟨y,2,none⟩ c) := fun W hW a b c => ((hW.put (.inr HO.out.wy)).put (.inr HO.out.wy)).put (.inr HO.out.wy)
   have HKY := hZ0 hky;clear hky
   obtain ⟨er,her⟩ : ∃ er,rEnd s r = er := ⟨_,rfl⟩
   rw [her] at HOF ⊢
   clear her
   by_cases he : er = 0
   rotate_left
   ·have he2 : (er != 0) = true := by simpa using he
    have hof := HOF.out
    rw [if_pos he] at hof
    have HOF2 := hZ0 hof;clear hof HOF he
    go_wp2_with fail
    refine bodyPost_ret (v := .tuple #[.agg #[.int .i64 0,.int .i64 0,.slice none 0 0],.int .i64 er]) (by simp [results,Tryz.results109,go_sem,y0,y1,y2,yf0,yf1,yf2]) rfl (?_ : ReadN w s _ _)
    refine ⟨none,0,by rw [HOF2.out];rfl,by rw [HOF2.out];exact Src.nil _ _ _,by rw [HOF2.out];exact Nat.le_refl _,Nat.zero_le _,(fun ad e => by cases e),?_⟩
    exact HKY.out _ HST.out.2.2.2.2 _ _ _
   subst he
   have hof := HOF.out
   rw [if_neg (by simp)] at hof
   have HOF1 := hZ0 hof;clear hof HOF
   have hsr := Src.of_own HST.out.2.2.2.1.1
   have hcap := own_cap HST.out.2.2.2.1.1
   have hck := rcheck_any w6 ⟨c,q,l⟩ A cap hsr hcap.1
   obtain ⟨ck,hckv⟩ : ∃ ck,chk ⟨c,q,l⟩ = ck := ⟨_,rfl⟩
   rw [hckv] at hck HOF1
   unfold bagg at hck
   dsimp only at hck
   have HCK := hZ0 hck;clear hck hckv hsr
   have HCAP := hZ0 hcap;clear hcap
   go_wp2_with fail
   refine HCK.out.mono ?_
   rintro e w7 ⟨rfl,hk⟩
   have hst := HST.out.keep hk
   clear HST hk x0 x1 x2 xf y0 y1 y2 yf0 yf1 yf2
   obtain ⟨⟨x0,x1,x2⟩,xf,⟨y0,y1,y2⟩,yf0,yf1,yf2⟩ := hst.cells
   have HST := hZ0 hst;clear hst
   by_cases he : ck = 0
   rotate_left
   ·have he2 : (ck != 0) = true := by simpa using he
    have hof := HOF1.out
    rw [if_pos he] at hof
    have HOF2 := hZ0 hof;clear hof HOF1 he
    go_wp2_with fail
    refine bodyPost_ret (v := .tuple #[.agg #[.int .i64 0,.int .i64 0,.slice none 0 0],.int .i64 ck]) (by simp [results,Tryz.results109,go_sem,y0,y1,y2,yf0,yf1,yf2]) rfl (?_ : ReadN w s _ _)
    refine ⟨none,0,by rw [HOF2.out];rfl,by rw [HOF2.out];exact Src.nil _ _ _,by rw [HOF2.out];exact Nat.le_refl _,Nat.zero_le _,(fun ad e => by cases e),?_⟩
    exact HKY.out _ HST.out.2.2.2.2 _ _ _
   ·subst he
    have hof := HOF1.out
    rw [if_neg (by simp)] at hof
    have HOF2 := hZ0 hof;clear hof HOF1
    go_wp2_with fail
    refine bodyPost_ret (v := .tuple #[.agg #[.int .i64 c,.int .i64 q,.slice A l.length cap],.int .i64 0]) (by simp [results,Tryz.results109,go_sem,y0,y1,y2,yf0,yf1,yf2]) rfl (?_ : ReadN w s _ _)
    have hn : ∀ k,(Value.slice A l.length cap).ownBlock = some k -> k ≠ y := fun k hk e => by
     have := HST.out.2.2.2.1.2 k hk
     have := HO.out.yB
     omega
    have hkk : ∀ a b c,Kept (fun k => k = y) w7 (((w7.setCell ⟨y,0,none⟩ a).setCell ⟨y,1,none⟩ b).setCell ⟨y,2,none⟩ c) := fun a b c => Kept.put (F := fun k => k = y) (Kept.put (F := fun k => k = y) (Kept.put (F := fun k => k = y) (Kept.refl _ _) (.inl rfl)) (.inl rfl)) (.inl rfl)
    refine ⟨A,cap,by rw [HOF2.out],?_,by rw [HOF2.out];exact HCAP.out.1,HCAP.out.2,(fun ad e => by have h1 := row_above HST.out.2.2.2.1 ad e;have := HO.out.gB;have := HO.out.wg;omega),?_⟩
    ·rw [HOF2.out]
     exact Src.of_own (own_kept HST.out.2.2.2.1.1 (hkk _ _ _) hn)
    ·exact HKY.out _ HST.out.2.2.2.2 _ _ _
end Ops
end Go.Proofs.YtgbigpdiacjbgaaGreat

/- Part 11 of what the proof needs. -/
import Derived.Test.YtgbigpdiacjbgaaGreatKO09
set_option linter.unusedSimpArgs false
set_option linter.unusedVariables false
set_option maxHeartbeats 32000000
set_option maxRecDepth 100000
namespace Go.Proofs.YtgbigpdiacjbgaaGreat
open Go.RowKit
set_option maxRecDepth 100000
namespace Ask
open Plan Ops Ent Msg MO Vn
section
variable {w w' : World} {X : PX} {t : TS} {G : Nat -> Prop}
structure PGood (w : World) (F : Nat -> Prop) (x : MsgR) : Prop where
 s : Src w 2 x.pA x.ps.length (pcells x.ps)
 l : x.ps.length <= x.pc /\ x.pc <= maxLen
 off : 0 < x.ps.length -> ∀ ad,x.pA = some ad -> ¬ F ad.block
 k : ∀ y ∈ x.ps,y.key.size <= maxLen
theorem pcells_take (l : List PairR) (k : Nat) : (pcells l).take (k * 2) = pcells (l.take k) := by
 unfold pcells
 induction l generalizing k with
 | nil => simp
 | cons a l ih =>
  cases k with
  | zero => simp
  | succ k =>
   rw [List.take_succ_cons,List.flatMap_cons,List.flatMap_cons,<- ih k,show (k + 1) * 2 = (k * 2 + 1) + 1 by omega]
   unfold pcell
   simp
theorem pageL_len (hok : TOk t) (hk2 : t.a.k = 2) (x : MsgR) : ((pageL t x).length : Int) = min (x.ps.length : Int) (sizeT t) /\ (pageL t x).length <= 2 /\ 0 <= sizeT t /\ (t.ps.length + (pageL t x).length : Nat) <= t.a.n := by
 have h1 := hok.n1 hk2
 have h2 := hok.ps.2 hk2
 have hs : sizeT t = min 2 (t.a.n - t.ps.length) := rfl
 have hl : (pageL t x).length = min (sizeT t).toNat x.ps.length := by unfold pageL;rw [List.length_take]
 omega
theorem pcells_app (l m : List PairR) : pcells (l ++ m) = pcells l ++ pcells m := by unfold pcells;rw [List.flatMap_append]
theorem PAt.paged {w4 w5 : World} {A5 : Option Addr} {c5 : Nat} {L : List PairR} (h4 : PAt w4 X t) (h1 : t.ph = 1) (hnd : t.dn = false) (ho : w5.ownsRow 0 84 2 (.slice A5 (t.ps.length + L.length) c5) (t.ps.length + L.length) (pcells t.ps ++ pcells L))
  (hg : w4.grownBy w5 (Value.slice X.pA t.ps.length X.pc).ownBlock) (ha : (Value.slice A5 (t.ps.length + L.length) c5).ownBlock = (Value.slice X.pA t.ps.length X.pc).ownBlock \/ (Value.slice A5 (t.ps.length + L.length) c5).ownBlock = some w4.heap.size) :
  PAt ((w5.setCell ⟨X.g,12,none⟩ (.slice A5 (t.ps.length + L.length) c5)).setCell ⟨X.b,2,none⟩ (.int .i64 0)) { X with pA := A5,pc := c5 } { t with ps := t.ps ++ L,waits := 0 } /\ Kept (foot X t) w4 ((w5.setCell ⟨X.g,12,none⟩ (.slice A5 (t.ps.length + L.length) c5)).setCell ⟨X.b,2,none⟩ (.int .i64 0)) /\
   ∀ k,foot { X with pA := A5,pc := c5 } { t with ps := t.ps ++ L,waits := 0 } k -> foot X t k \/ w4.heap.size <= k := by
 have hkr : Kept (fun k => (Value.slice X.pA t.ps.length X.pc).ownBlock = some k) w4 w5 := (Kept.refl _ _).grown hg (fun k hk => .inl hk)
 have hg4 := h4.g h1
 have hgb : X.g ≠ X.b := fun e => Has.ne hg4 h4.b (by decide) e
 have g5 := hg4.kept hkr (fun e => own_ne h4.p hg4 (by decide) e)
 have b5 := h4.b.kept hkr (fun e => own_ne h4.p h4.b (by decide) e)
 have hk6 : Kept (fun k => k = X.g \/ k = X.b) w5 ((w5.setCell ⟨X.g,12,none⟩ (.slice A5 (t.ps.length + L.length) c5)).setCell ⟨X.b,2,none⟩ (.int .i64 0)) := by (repeat' (first | (with_reducible first | exact kR0 | apply kP0 | apply kN0 | apply kD0 | apply kA0) | (first | exact .inl (.inl rfl) | exact .inl (.inr rfl)) | (right;simp;done)))
 have hlen : (t.ps ++ L).length = t.ps.length + L.length := List.length_append
 have hnew : ∀ {e : TypeId} {size n : Nat} {v : Value} {xs : List Value},w5.ownsRow 0 e size v n xs -> e ≠ 109 -> e ≠ 114 -> ((w5.setCell ⟨X.g,12,none⟩ (.slice A5 (t.ps.length + L.length) c5)).setCell ⟨X.b,2,none⟩ (.int .i64 0)).ownsRow 0 e size v n xs := fun ho he he2 => own_kept ho hk6 (fun k hk3 e2 => by
  rcases e2 with e2 | e2
  ·exact own_ne ho g5 he2 (e2 ▸ hk3)
  ·exact own_ne ho b5 he (e2 ▸ hk3))
 have hnd2 := h4.nd hnd
 refine ⟨⟨?_,fun _ => ?_,fun e => absurd h1 e,hnew (own_kept h4.bo hkr (fun k hk e => ?_)) (by decide) (by decide),?_,?_,h4.nd⟩,?_,?_⟩
 ·exact (b5.past (i := 12) (u := .slice A5 (t.ps.length + L.length) c5) (fun e => hgb e.symm)).put 2 (.int .i64 0)
 ·have hx := (g5.put 12 (.slice A5 (t.ps.length + L.length) c5)).past (b := X.b) (i := 2) (u := .int .i64 0) hgb
  have e : gcell { X with pA := A5,pc := c5 } { t with ps := t.ps ++ L,waits := 0 } = (gcell X t).setIfInBounds 12 (.slice A5 (t.ps.length + L.length) c5) := by
   unfold gcell ccell
   dsimp only
   rw [hlen]
   rfl
  rw [e];exact hx
 ·have hbo := h4.bo
  have hp := h4.p
  rcases hbo.2 with ⟨h3,_⟩ | ⟨g,cap,cur,h3,_,hh,_⟩
  ·rw [h3] at hk;cases hk
  ·rw [h3] at hk
   simp [Value.ownBlock] at hk
   subst hk
   exact own_ne hp hh (by decide) e
 ·show World.ownsRow _ 0 84 2 (.slice A5 (t.ps ++ L).length c5) (t.ps ++ L).length (pcells (t.ps ++ L))
  rw [hlen,pcells_app]
  exact hnew ho (by decide) (by decide)
 ·show World.ownsRow _ 0 84 2 (.slice X.rA t.r.ps.length X.rc) t.r.ps.length (pcells t.r.ps)
  rw [hnd2.1,hnd2.2.1,hnd2.2.2]
  exact ⟨rfl,.inl ⟨rfl,rfl⟩⟩
 ·refine (hkr.mono (fun k hk => .inr (.inr (.inl hk)))).then (hk6.mono (fun k hk => ?_))
  rcases hk with e | e
  ·exact .inr (.inl e)
  ·exact .inl e
 ·intro k hk
  rcases hk with e | e | e | e | e
  ·exact .inl (.inl e)
  ·exact .inl (.inr (.inl e))
  ·have e2 : (Value.slice A5 (t.ps ++ L).length c5).ownBlock = some k := e
   rw [hlen] at e2
   rcases ha with e3 | e3
   ·exact .inl (.inr (.inr (.inl (e3.symm.trans e2))))
   ·rw [e2] at e3
    injection e3 with e3
    exact .inr (by omega)
  ·exact .inl (.inr (.inr (.inr (.inl e))))
  ·exact .inl (.inr (.inr (.inr (.inr e))))
theorem page_any (h : PAt w X t) (h1 : t.ph = 1) (hnd : t.dn = false) (hok : TOk t) (hk2 : t.a.k = 2) (x : MsgR) (hx : PGood w (foot X t) x) : Calls Tryz.prog 213 #[.pointer (some ⟨X.g,0,none⟩),.pointer (some ⟨X.b,0,none⟩),xagg x] w (PPost w X t (.bool (pageT t x).2) (pageT t x).1) := by
 obtain ⟨hL,hL2,hs0,hLn⟩ := pageL_len hok hk2 x
 obtain ⟨W0,hW0⟩ : ∃ W0,w.alloc (.cells (xcell x).toArray 63) = W0 := ⟨_,rfl⟩
 have hk0 : Kept NoF w W0 := by rw [<- hW0];(repeat' (first | (with_reducible first | exact kR0 | apply kP0 | apply kN0 | apply kD0 | apply kA0) | (right;simp;done)))
 have hn0 : Has W0 w.heap.size 63 (xcell x).toArray := by rw [<- hW0];exact Has.new _ _ _
 have h0 := h.quiet hk0
 have hsz := fun W (hW : Kept NoF W0 W) => psize_any (h0.quiet hW) h1 hok
 have HM21 : ∀ W,Kept NoF W0 W -> W.cell? ⟨w.heap.size,21,none⟩ = some (.slice x.pA x.ps.length x.pc) /\ W.cell? ⟨w.heap.size,4,none⟩ = some (.bool x.fl) := fun W hW => ⟨(hn0.kept hW (fun z => z)).cell 21,(hn0.kept hW (fun z => z)).cell 4⟩
 obtain ⟨L,hLe⟩ : ∃ L,pageL t x = L := ⟨_,rfl⟩
 obtain ⟨sz,hsze⟩ : ∃ sz,sizeT t = sz := ⟨_,rfl⟩
 have hLt : L = x.ps.take L.length := by
  rw [<- hLe];unfold pageL
  rw [List.length_take]
  rcases Nat.le_total (sizeT t).toNat x.ps.length with e | e
  ·rw [Nat.min_eq_left e]
  ·rw [Nat.min_eq_right e,List.take_length,List.take_of_length_le e]
 rw [hLe] at hL hL2 hLn
 rw [hsze] at hL hs0
 simp only [hsze] at hsz
 obtain ⟨m,hm⟩ : ∃ m,L.length = m := ⟨_,rfl⟩
 rw [hm] at hL hL2 hLn hLt
 have hmn := run_min (x.ps.length : Int) sz (m : Int) hL.symm
 have hmle : m <= x.ps.length := by omega
 have hmc : m <= x.pc := Nat.le_trans hmle hx.l.1
 obtain ⟨n,hn⟩ : ∃ n,x.ps.length = n := ⟨_,rfl⟩
 have HX := hZ0 hx;have HLT := hZ0 hLt;have HSZ := hZ0 hsz;have HH := hZ0 h;have HK0 := hZ0 hk0;have HMM := hZ0 HM21;have HH0 := hZ0 h0;have HL2 := hZ0 (And.intro hL2 hLn);have HPH := hZ0 (And.intro h1 (And.intro hnd hk2));have HOK := hZ0 hok;have HN0 := hZ0 hn0;have HME := hZ0 hm;have HLE := hZ0 hLe
 have m21 := (HM21 W0 (Kept.refl _ _)).1
 have hl1 := hx.l.1;have hl2 := hx.l.2
 rw [hn] at hmn hmle m21 hl1
 have HNE := hZ0 hn
 unfold xcell at hW0
 unfold xagg xcell
 rw [hn] at hW0 ⊢
 simp only [hn] at HMM
 obtain ⟨gb,hgb⟩ : ∃ gb,X.g = gb := ⟨_,rfl⟩
 simp only [hgb] at HSZ
 rw [hgb]
 have HGB := hZ0 hgb
 unfold maxLen at hl2
 clear h h1 hnd hok hk2 hx hL hL2 hs0 hLn hk0 hn0 h0 hsz HM21 hLe hsze hLt hm hn hgb
 go_enter Tryz.func213,Tryz.ntmps213
 go_wp2_with fail
 go_region_held3 (fun W => W.cell? ⟨w.heap.size,21,none⟩ = some (.slice x.pA n x.pc))
  (first | with_reducible exact m21 | with_reducible exact y4 | exact m21)
  (first | (go_at_call 211;refine (HSZ.out _ (by (repeat' (first | (with_reducible first | exact kR0 | apply kP0 | apply kN0 | apply kD0 | apply kA0) | (right;simp;done))))).mono ?_;rintro e w4 ⟨rfl,hk4⟩;have hk := Kept.then (F := NoF) (a := W0) (by (repeat' (first | (with_reducible first | exact kR0 | apply kP0 | apply kN0 | apply kD0 | apply kA0) | (right;simp;done)))) hk4;have y4 := (HMM.out w4 hk).1;have HK4 := hZ0 hk;clear hk hk4))
 clear hW0 m21 hmn y4
 -- the pairs come
 have hkw4 := HK0.out.then HK4.out
 have h4 := HH.out.quiet hkw4
 have hg4 := h4.g HPH.out.1
 obtain ⟨q,hq⟩ : ∃ q,t.ps.length = q := ⟨_,rfl⟩
 have q12 : w4.cell? ⟨gb,12,none⟩ = some (.slice X.pA q X.pc) := by rw [<- HGB.out,<- hq];exact hg4.cell 12
 have qf12 : w4.frozen? ⟨gb,12,none⟩ = false := by rw [<- HGB.out];exact hg4.frozen 12
 have hown := h4.p
 rw [hq] at hown
 have hsrc : Src w4 2 x.pA m (pcells L) := by
  have s1 := (HX.out.s.kept hkw4 (fun _ _ z => z)).take (k := m) (by rw [HNE.out];exact hmle)
  rw [pcells_take,<- HLT.out] at s1
  exact s1
 have hb1 : q + m <= maxLen := by have := HOK.out.ps.1;have := HL2.out.1;unfold maxLen;omega
 have hb2 : (q + m) * 32 <= 140737488355328 := by have := HOK.out.ps.1;have := HL2.out.1;omega
 have HOW := hZ0 hown;have HSR := hZ0 hsrc;have HB1 := hZ0 hb1;have HB2 := hZ0 hb2;have HQ := hZ0 hq;have HKW := hZ0 hkw4;have H4 := hZ0 h4;have HG4 := hZ0 hg4
 clear hown hsrc hb1 hb2 hq hkw4 h4 hg4
 obtain ⟨bb,hbb⟩ : ∃ bb,X.b = bb := ⟨_,rfl⟩
 have hne : gb ≠ bb := fun e => by rw [<- HGB.out,<- hbb] at e;exact Has.ne HG4.out H4.out.b (by decide) e
 have HBB := hZ0 hbb
 rw [hbb]
 clear hbb
 go_wp2_with (at_builtin;refine list_append_src elemPairA (.tmp 22) (.tmp 23) rfl rfl (Value.slice X.pA q X.pc) rfl HOW.out x.pc rfl HSR.out (one_prs L) HB1.out HB2.out ?_;intro A5 c5 w5 ho5 hg5 ha5;have hkr : Kept (fun k => (Value.slice X.pA q X.pc).ownBlock = some k) w4 w5 := (Kept.refl _ _).grown hg5 (fun k hk => .inl hk);have hg6 := HG4.out.kept hkr (fun e => own_ne HOW.out HG4.out (by decide) e);have hb6 := H4.out.b.kept hkr (fun e => own_ne HOW.out H4.out.b (by decide) e);have e2 : w5.frozen? ⟨bb,2,none⟩ = false := (by rw [<- HBB.out];exact hb6.frozen 2);have e3 : w5.frozen? ⟨gb,12,none⟩ = false := (by rw [<- HGB.out];exact hg6.frozen 12);have z2 : w5.cell? ⟨bb,2,none⟩ = some (.int .i64 t.waits) := (by rw [<- HBB.out];exact hb6.cell 2);have z12 : w5.cell? ⟨gb,12,none⟩ = some (.slice X.pA q X.pc) := (by rw [<- HGB.out,<- HQ.out];exact hg6.cell 12);have HKR := hZ0 hkr;have HG6 := hZ0 hg6;have HB6 := hZ0 hb6;clear hkr hg6 hb6;have HO5 := hZ0 (And.intro ho5 (And.intro hg5 ha5));clear ho5 hg5 ha5)
 have hmid := PAt.paged (L := L) H4.out HPH.out.1 HPH.out.2.1 (by rw [HQ.out,HME.out];exact HO5.out.1) (by rw [HQ.out];exact HO5.out.2.1) (by rw [HQ.out,HME.out];exact HO5.out.2.2)
 rw [HQ.out,HME.out,HGB.out,HBB.out] at hmid
 obtain ⟨W6,hW6⟩ : ∃ W6,((w5.setCell ⟨gb,12,none⟩ (.slice A5 (q + m) c5)).setCell ⟨bb,2,none⟩ (.int .i64 0)) = W6 := ⟨_,rfl⟩
 rw [hW6] at hmid ⊢
 obtain ⟨h6,hk46,hgrow⟩ := hmid
 have hg6 := h6.g HPH.out.1
 have hlen : (t.ps ++ L).length = q + m := by rw [List.length_append,HQ.out,HME.out]
 have hbox := (HN0.out.kept HK4.out (fun z => z)).kept hk46 (fun hf => by have := HH.out.lt hf;omega)
 have u4 : W6.cell? ⟨w.heap.size,4,none⟩ = some (.bool x.fl) := hbox.cell 4
 have v8 : W6.cell? ⟨gb,8,none⟩ = some (.int .i64 t.a.n) := hg6.cell 8
 have v10 : W6.cell? ⟨gb,10,none⟩ = some (.int .u64 t.at') := hg6.cell 10
 have v11 : W6.cell? ⟨gb,11,none⟩ = some (.string t.key) := hg6.cell 11
 have vf11 := hg6.frozen 11
 have v12 : W6.cell? ⟨gb,12,none⟩ = some (.slice A5 (q + m) c5) := by rw [<- hlen];exact hg6.cell 12
 have hgo : goesOn t x = (x.fl && (decide (0 < m) && (decide ((q + m : Nat) < t.a.n) && decide (nextKey L ≠ emp)))) := by unfold goesOn;rw [HLE.out,HME.out,HQ.out]
 have hF : goesOn t x = false -> pageT t x = (endT { t with ps := t.ps ++ L,waits := 0 } ⟨0,0,t.at',0,t.ps ++ L⟩,false) := fun e => by unfold pageT;rw [if_neg (by rw [e];decide),HLE.out]
 have hT : goesOn t x = true -> pageT t x = ({ t with ps := t.ps ++ L,waits := 0,key := nextKey L },true) := fun e => by unfold pageT;rw [if_pos e,HLE.out]
 have hend := fun W (hW : Kept NoF W6 W) => end_any (h6.quiet hW) ⟨0,0,t.at',0,t.ps ++ L⟩ A5 c5 ((h6.quiet hW).p)
 unfold ragg rcell at hend
 dsimp only at hend
 simp only [hlen] at hend
 have hfin : ∀ W w7 (e : Ending),Kept NoF W6 W -> PAt w7 { b := bb,g := gb,bA := X.bA,bc := X.bc,pA := A5,pc := c5,rA := A5,rc := c5 } (endT { t with ps := t.ps ++ L,waits := 0 } ⟨0,0,t.at',0,t.ps ++ L⟩) -> Kept (fun k => k = bb) W w7 -> ∀ w8,Kept NoF w7 w8 -> goesOn t x = false -> PPost w X t (.bool (pageT t x).2) (pageT t x).1 (.returned (.bool false)) w8 := fun W w7 e hW hp hk w8 hk8 hgo2 => by
  rw [hF hgo2]
  refine ⟨rfl,_,hp.quiet hk8,HBB.out.symm,fun k hk => ?_,?_⟩
  ·have hk3 : foot { b := bb,g := gb,bA := X.bA,bc := X.bc,pA := A5,pc := c5,rA := X.rA,rc := X.rc } { t with ps := t.ps ++ L,waits := 0 } k := by
    rcases hk with e | e | e | e | e
    ·exact .inl e
    ·exact .inr (.inl e)
    ·exact .inr (.inr (.inl e))
    ·exact .inr (.inr (.inr (.inl e)))
    ·exact .inr (.inr (.inl e))
   rcases hgrow k hk3 with e | e
   ·exact .inl e
   ·exact .inr (Nat.le_trans HKW.out.size e)
  ·exact (((HKW.out.mono (fun _ z => z.elim)).then hk46).then (hW.mono (fun _ z => z.elim))).then (hk.mono (fun k e => .inl (e.trans HBB.out.symm))) |>.then (hk8.mono (fun _ z => z.elim))
 have HEND := hZ0 hend;have HFIN := hZ0 hfin;have H6 := hZ0 h6;have HK46 := hZ0 hk46;have HGR := hZ0 hgrow;have HGO := hZ0 hgo;have HTT := hZ0 hT;have HLEN := hZ0 hlen
 clear hend hfin hgrow hgo hF hT h6 hlen hW6 hbox hg6 e2 e3 z2 z12 q12 qf12
 cases hfl : x.fl with
 | false =>
  rw [hfl] at u4
  have HFL := hZ0 hfl
  clear hfl
  go_quiet (fail)
  go_wp2
  go_region_held3 (fun W => W.cell? ⟨gb,10,none⟩ = some (.int .u64 t.at') /\ W.cell? ⟨gb,12,none⟩ = some (.slice A5 (q + m) c5))
   (first | with_reducible exact y7 | with_reducible exact ⟨v10,v12⟩ | exact ⟨v10,v12⟩)
   (first | (go_at_call 67;refine (HEND.out _ (by (repeat' (first | (with_reducible first | exact kR0 | apply kP0 | apply kN0 | apply kD0 | apply kA0) | (right;simp;done))))).mono ?_;rintro e w7 ⟨rfl,hp7,hk7⟩;have y7 : w7.cell? ⟨gb,10,none⟩ = some (.int .u64 t.at') /\ w7.cell? ⟨gb,12,none⟩ = some (.slice A5 (q + m) c5) := And.intro ((hp7.g HPH.out.1).cell 10) (HLEN.out ▸ (hp7.g HPH.out.1).cell 12);have HP7 := hZ0 hp7;have HK7 := hZ0 hk7;clear hp7 hk7))
  all_goals
   go_wp2
   go_ret
   exact HFIN.out _ _ (.returned (.bool false)) (by (repeat' (first | (with_reducible first | exact kR0 | apply kP0 | apply kN0 | apply kD0 | apply kA0) | (right;simp;done)))) HP7.out HK7.out _ (Kept.refl _ _) (by rw [HGO.out];rw [HFL.out];rfl)
 | true =>
  rw [hfl] at u4
  have HFL := hZ0 hfl
  clear hfl
  by_cases hm0 : m = 0
  ·have HM0 := hZ0 hm0
   have hc0 : ¬ 0 < m := by omega
   clear hm0
   go_quiet (fail)
   go_wp2
   go_region_held3 (fun W => W.cell? ⟨gb,10,none⟩ = some (.int .u64 t.at') /\ W.cell? ⟨gb,12,none⟩ = some (.slice A5 (q + m) c5))
    (first | with_reducible exact y7 | with_reducible exact ⟨v10,v12⟩ | exact ⟨v10,v12⟩)
    (first | (go_at_call 67;refine (HEND.out _ (by (repeat' (first | (with_reducible first | exact kR0 | apply kP0 | apply kN0 | apply kD0 | apply kA0) | (right;simp;done))))).mono ?_;rintro e w7 ⟨rfl,hp7,hk7⟩;have y7 : w7.cell? ⟨gb,10,none⟩ = some (.int .u64 t.at') /\ w7.cell? ⟨gb,12,none⟩ = some (.slice A5 (q + m) c5) := And.intro ((hp7.g HPH.out.1).cell 10) (HLEN.out ▸ (hp7.g HPH.out.1).cell 12);have HP7 := hZ0 hp7;have HK7 := hZ0 hk7;clear hp7 hk7))
   all_goals
    go_wp2
    go_ret
    exact HFIN.out _ _ (.returned (.bool false)) (by (repeat' (first | (with_reducible first | exact kR0 | apply kP0 | apply kN0 | apply kD0 | apply kA0) | (right;simp;done)))) HP7.out HK7.out _ (Kept.refl _ _) (by rw [HGO.out];rw [HM0.out];simp)
  have hc0 : 0 < m := by omega
  by_cases hqn : ((q + m : Nat) : Int) < t.a.n
  rotate_left
  ·have HQN := hZ0 hqn
   have hc1 : ¬ (q : Int) + (m : Int) < t.a.n := by omega
   clear hqn
   go_quiet (fail)
   go_wp2
   go_region_held3 (fun W => W.cell? ⟨gb,10,none⟩ = some (.int .u64 t.at') /\ W.cell? ⟨gb,12,none⟩ = some (.slice A5 (q + m) c5))
    (first | with_reducible exact y7 | with_reducible exact ⟨v10,v12⟩ | exact ⟨v10,v12⟩)
    (first | (go_at_call 67;refine (HEND.out _ (by (repeat' (first | (with_reducible first | exact kR0 | apply kP0 | apply kN0 | apply kD0 | apply kA0) | (right;simp;done))))).mono ?_;rintro e w7 ⟨rfl,hp7,hk7⟩;have y7 : w7.cell? ⟨gb,10,none⟩ = some (.int .u64 t.at') /\ w7.cell? ⟨gb,12,none⟩ = some (.slice A5 (q + m) c5) := And.intro ((hp7.g HPH.out.1).cell 10) (HLEN.out ▸ (hp7.g HPH.out.1).cell 12);have HP7 := hZ0 hp7;have HK7 := hZ0 hk7;clear hp7 hk7))
   all_goals
    go_wp2
    go_ret
    exact HFIN.out _ _ (.returned (.bool false)) (by (repeat' (first | (with_reducible first | exact kR0 | apply kP0 | apply kN0 | apply kD0 | apply kA0) | (right;simp;done)))) HP7.out HK7.out _ (Kept.refl _ _) (by rw [HGO.out];rw [decide_eq_false (show ¬ ((q + m : Nat) : Int) < t.a.n by have := HQN.out;omega)];simp)
  have HQN := hZ0 hqn
  have hc1 : (q : Int) + (m : Int) < t.a.n := by omega
  clear hqn
  go_quiet (fail)
  rcases (show m = 1 \/ m = 2 by have := HL2.out.1;omega) with rfl | rfl
  ·obtain ⟨p,hp⟩ : ∃ p,L[0]? = some p := ⟨_,List.getElem?_eq_getElem (by rw [HME.out];decide)⟩
   have hnk : nextKey L = ofL (Keys.nextL (bl p.key)) := by unfold nextKey;rw [List.getLast?_eq_getElem?,HME.out];show (match L[0]? with | none => emp | some p => ofL (Keys.nextL (bl p.key))) = _;rw [hp]
   have hsr6 : Src W6 2 x.pA 1 (pcells L) := src_off HSR.out HK46.out (fun _ => HX.out.off (by rw [HNE.out];omega))
   obtain ⟨ad,hade,had,hcell0,-⟩ := pair_cells hsr6 (by decide) 0 p hp
   have hpk : p.key.size <= maxLen := HX.out.k p (by
    have h9 := List.mem_of_getElem? hp
    rw [HLT.out] at h9
    exact List.mem_of_mem_take h9)
   have hkn := fun W => Keys.next_any p.key W hpk
   have HKN := hZ0 hkn;have HNK := hZ0 hnk
   clear hkn hnk hsr6 had hpk hp
   have hcell1 : W6.cell? ad = some (.string p.key) := by rw [show ad.add (0 * 2) = ad by unfold Addr.add;rfl] at hcell0;exact hcell0
   rw [hade]
   clear hade
   go_wp2_with fail
   refine (HKN.out _).mono ?_
   rintro e w7 ⟨s',rfl,hs',hb7⟩
   have hk7 : Kept NoF W6 w7 := Kept.then (b := W6.drewN nq) (by (repeat' (first | (with_reducible first | exact kR0 | apply kP0 | apply kN0 | apply kD0 | apply kA0) | (right;simp;done)))) ⟨hb7.os,hb7.tape,hb7.output,hb7.size,fun k hk _ => hb7.block k hk⟩
   have hse : s' = nextKey L := by rw [HNK.out];exact bl_inj (by rw [bl_ofL];exact hs')
   have w10 : w7.cell? ⟨gb,10,none⟩ = some (.int .u64 t.at') := ((H6.out.quiet hk7).g HPH.out.1).cell 10
   have w11 : w7.cell? ⟨gb,11,none⟩ = some (.string t.key) := ((H6.out.quiet hk7).g HPH.out.1).cell 11
   have w12 : w7.cell? ⟨gb,12,none⟩ = some (.slice A5 (q + 1) c5) := HLEN.out ▸ ((H6.out.quiet hk7).g HPH.out.1).cell 12
   have wf11 := ((H6.out.quiet hk7).g HPH.out.1).frozen 11
   have HK7W := hZ0 hk7;have HSE := hZ0 hse
   clear hb7 hk7 hs' hse v8 v10 v11 v12 vf11 u4 hcell0 hcell1
   by_cases hs0 : s' = emp
   ·have hsb : (s'.toList == (⟨#[]⟩ : ByteArray).toList) = true := by rw [tl_eq];exact decide_eq_true hs0
    have hsb2 : s'.toList.isEmpty = true := by rw [hs0];unfold emp;simp
    have HS0 := hZ0 hs0
    clear hs0
    go_wp2
    go_region_held3 (fun W => W.cell? ⟨gb,10,none⟩ = some (.int .u64 t.at') /\ W.cell? ⟨gb,12,none⟩ = some (.slice A5 (q + 1) c5))
     (first | with_reducible exact y7 | with_reducible exact ⟨w10,w12⟩ | exact ⟨w10,w12⟩)
     (first | (go_at_call 67;refine (HEND.out _ (by (repeat' (first | (with_reducible first | exact kR0 | apply kP0 | apply kN0 | apply kD0 | apply kA0) | (exact HK7W.out) | (right;simp;done))))).mono ?_;rintro e w7 ⟨rfl,hp7,hk7⟩;have y7 : w7.cell? ⟨gb,10,none⟩ = some (.int .u64 t.at') /\ w7.cell? ⟨gb,12,none⟩ = some (.slice A5 (q + 1) c5) := And.intro ((hp7.g HPH.out.1).cell 10) (HLEN.out ▸ (hp7.g HPH.out.1).cell 12);have HP7 := hZ0 hp7;have HK7 := hZ0 hk7;clear hp7 hk7))
    all_goals
     go_wp2
     go_ret
     exact HFIN.out _ _ (.returned (.bool false)) (by (repeat' (first | (with_reducible first | exact kR0 | apply kP0 | apply kN0 | apply kD0 | apply kA0) | (exact HK7W.out) | (right;simp;done)))) HP7.out HK7.out _ (Kept.refl _ _) (by rw [HGO.out];rw [decide_eq_false (show ¬ nextKey L ≠ emp from fun e => e (HSE.out.symm.trans HS0.out))];simp)
   ·have hsb : (s'.toList == (⟨#[]⟩ : ByteArray).toList) = false := by rw [tl_eq];exact decide_eq_false hs0
    have hsb2 : s'.toList.isEmpty = false := by
     rw [<- Bool.not_eq_true,List.isEmpty_iff]
     intro e
     apply hs0
     have h9 : (s'.toList == emp.toList) = true := by rw [e];unfold emp;simp
     rw [tl_eq] at h9
     exact of_decide_eq_true h9
    have HS0 := hZ0 hs0
    clear hs0
    go_wp2
    go_ret
    have hgoT : goesOn t x = true := by
     rw [HGO.out,HFL.out,decide_eq_true HQN.out,decide_eq_true (show 0 < 1 by decide),decide_eq_true (show nextKey L ≠ emp from fun e => HS0.out (HSE.out.trans e))]
     rfl
    rw [HTT.out hgoT,<- HSE.out]
    have h7 := H6.out.quiet HK7W.out
    have hk8 : Kept (fun k => k = gb) w7 (w7.setCell ⟨gb,11,none⟩ (.string s')) := by (repeat' (first | (with_reducible first | exact kR0 | apply kP0 | apply kN0 | apply kD0 | apply kA0) | (exact .inl rfl) | (right;simp;done)))
    have hg8 := (h7.g HPH.out.1).put 11 (.string s')
    have hne8 : ∀ {e : TypeId} {size n : Nat} {v : Value} {xs : List Value},w7.ownsRow 0 e size v n xs -> e ≠ 114 -> (w7.setCell ⟨gb,11,none⟩ (.string s')).ownsRow 0 e size v n xs := fun ho he => own_kept ho hk8 (fun k hk3 e2 => own_ne ho (h7.g HPH.out.1) he (e2 ▸ hk3))
    refine ⟨rfl,{ b := bb,g := gb,bA := X.bA,bc := X.bc,pA := A5,pc := c5,rA := X.rA,rc := X.rc },⟨h7.b.past (fun e => hne e.symm),fun _ => ?_,fun e => absurd HPH.out.1 e,hne8 h7.bo (by decide),hne8 h7.p (by decide),hne8 h7.r (by decide),h7.nd⟩,HBB.out.symm,fun k hk => ?_,?_⟩
    ·exact hg8
    ·rcases HGR.out k hk with e | e
     ·exact .inl e
     ·exact .inr (Nat.le_trans HKW.out.size e)
    ·exact (((HKW.out.mono (fun _ z => z.elim)).then HK46.out).then (HK7W.out.mono (fun _ z => z.elim))).then (hk8.mono (fun k e => .inr (.inl (e.trans HGB.out.symm))))
  ·obtain ⟨p,hp⟩ : ∃ p,L[1]? = some p := ⟨_,List.getElem?_eq_getElem (by rw [HME.out];decide)⟩
   have hnk : nextKey L = ofL (Keys.nextL (bl p.key)) := by unfold nextKey;rw [List.getLast?_eq_getElem?,HME.out];show (match L[1]? with | none => emp | some p => ofL (Keys.nextL (bl p.key))) = _;rw [hp]
   have hsr6 : Src W6 2 x.pA 2 (pcells L) := src_off HSR.out HK46.out (fun _ => HX.out.off (by rw [HNE.out];omega))
   obtain ⟨ad,hade,had,hcell0,-⟩ := pair_cells hsr6 (by decide) 1 p hp
   have hpk : p.key.size <= maxLen := HX.out.k p (by
    have h9 := List.mem_of_getElem? hp
    rw [HLT.out] at h9
    exact List.mem_of_mem_take h9)
   have hkn := fun W => Keys.next_any p.key W hpk
   have HKN := hZ0 hkn;have HNK := hZ0 hnk
   clear hkn hnk hsr6 had hpk hp
   have hcell1 : W6.cell? ⟨ad.block,ad.off + 2,none⟩ = some (.string p.key) := by rw [add_lit _ (by decide)] at hcell0;exact hcell0
   rw [hade]
   clear hade
   go_wp2_with fail
   refine (HKN.out _).mono ?_
   rintro e w7 ⟨s',rfl,hs',hb7⟩
   have hk7 : Kept NoF W6 w7 := Kept.then (b := W6.drewN nq) (by (repeat' (first | (with_reducible first | exact kR0 | apply kP0 | apply kN0 | apply kD0 | apply kA0) | (right;simp;done)))) ⟨hb7.os,hb7.tape,hb7.output,hb7.size,fun k hk _ => hb7.block k hk⟩
   have hse : s' = nextKey L := by rw [HNK.out];exact bl_inj (by rw [bl_ofL];exact hs')
   have w10 : w7.cell? ⟨gb,10,none⟩ = some (.int .u64 t.at') := ((H6.out.quiet hk7).g HPH.out.1).cell 10
   have w11 : w7.cell? ⟨gb,11,none⟩ = some (.string t.key) := ((H6.out.quiet hk7).g HPH.out.1).cell 11
   have w12 : w7.cell? ⟨gb,12,none⟩ = some (.slice A5 (q + 2) c5) := HLEN.out ▸ ((H6.out.quiet hk7).g HPH.out.1).cell 12
   have wf11 := ((H6.out.quiet hk7).g HPH.out.1).frozen 11
   have HK7W := hZ0 hk7;have HSE := hZ0 hse
   clear hb7 hk7 hs' hse v8 v10 v11 v12 vf11 u4 hcell0 hcell1
   by_cases hs0 : s' = emp
   ·have hsb : (s'.toList == (⟨#[]⟩ : ByteArray).toList) = true := by rw [tl_eq];exact decide_eq_true hs0
    have hsb2 : s'.toList.isEmpty = true := by rw [hs0];unfold emp;simp
    have HS0 := hZ0 hs0
    clear hs0
    go_wp2
    go_region_held3 (fun W => W.cell? ⟨gb,10,none⟩ = some (.int .u64 t.at') /\ W.cell? ⟨gb,12,none⟩ = some (.slice A5 (q + 2) c5))
     (first | with_reducible exact y7 | with_reducible exact ⟨w10,w12⟩ | exact ⟨w10,w12⟩)
     (first | (go_at_call 67;refine (HEND.out _ (by (repeat' (first | (with_reducible first | exact kR0 | apply kP0 | apply kN0 | apply kD0 | apply kA0) | (exact HK7W.out) | (right;simp;done))))).mono ?_;rintro e w7 ⟨rfl,hp7,hk7⟩;have y7 : w7.cell? ⟨gb,10,none⟩ = some (.int .u64 t.at') /\ w7.cell? ⟨gb,12,none⟩ = some (.slice A5 (q + 2) c5) := And.intro ((hp7.g HPH.out.1).cell 10) (HLEN.out ▸ (hp7.g HPH.out.1).cell 12);have HP7 := hZ0 hp7;have HK7 := hZ0 hk7;clear hp7 hk7))
    all_goals
     go_wp2
     go_ret
     exact HFIN.out _ _ (.returned (.bool false)) (by (repeat' (first | (with_reducible first | exact kR0 | apply kP0 | apply kN0 | apply kD0 | apply kA0) | (exact HK7W.out) | (right;simp;done)))) HP7.out HK7.out _ (Kept.refl _ _) (by rw [HGO.out];rw [decide_eq_false (show ¬ nextKey L ≠ emp from fun e => e (HSE.out.symm.trans HS0.out))];simp)
   ·have hsb : (s'.toList == (⟨#[]⟩ : ByteArray).toList) = false := by rw [tl_eq];exact decide_eq_false hs0
    have hsb2 : s'.toList.isEmpty = false := by
     rw [<- Bool.not_eq_true,List.isEmpty_iff]
     intro e
     apply hs0
     have h9 : (s'.toList == emp.toList) = true := by rw [e];unfold emp;simp
     rw [tl_eq] at h9
     exact of_decide_eq_true h9
    have HS0 := hZ0 hs0
    clear hs0
    go_wp2
    go_ret
    have hgoT : goesOn t x = true := by
     rw [HGO.out,HFL.out,decide_eq_true HQN.out,decide_eq_true (show 0 < 2 by decide),decide_eq_true (show nextKey L ≠ emp from fun e => HS0.out (HSE.out.trans e))]
     rfl
    rw [HTT.out hgoT,<- HSE.out]
    have h7 := H6.out.quiet HK7W.out
    have hk8 : Kept (fun k => k = gb) w7 (w7.setCell ⟨gb,11,none⟩ (.string s')) := by (repeat' (first | (with_reducible first | exact kR0 | apply kP0 | apply kN0 | apply kD0 | apply kA0) | (exact .inl rfl) | (right;simp;done)))
    have hg8 := (h7.g HPH.out.1).put 11 (.string s')
    have hne8 : ∀ {e : TypeId} {size n : Nat} {v : Value} {xs : List Value},w7.ownsRow 0 e size v n xs -> e ≠ 114 -> (w7.setCell ⟨gb,11,none⟩ (.string s')).ownsRow 0 e size v n xs := fun ho he => own_kept ho hk8 (fun k hk3 e2 => own_ne ho (h7.g HPH.out.1) he (e2 ▸ hk3))
    refine ⟨rfl,{ b := bb,g := gb,bA := X.bA,bc := X.bc,pA := A5,pc := c5,rA := X.rA,rc := X.rc },⟨h7.b.past (fun e => hne e.symm),fun _ => ?_,fun e => absurd HPH.out.1 e,hne8 h7.bo (by decide),hne8 h7.p (by decide),hne8 h7.r (by decide),h7.nd⟩,HBB.out.symm,fun k hk => ?_,?_⟩
    ·exact hg8
    ·rcases HGR.out k hk with e | e
     ·exact .inl e
     ·exact .inr (Nat.le_trans HKW.out.size e)
    ·exact (((HKW.out.mono (fun _ z => z.elim)).then HK46.out).then (HK7W.out.mono (fun _ z => z.elim))).then (hk8.mono (fun k e => .inr (.inl (e.trans HGB.out.symm))))
end
end Ask
end Go.Proofs.YtgbigpdiacjbgaaGreat

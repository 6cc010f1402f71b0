/- Part 47 of what the proof needs. -/
import Derived.Test.YtgbigpdiacjbgaaGreatKO11
import Derived.Test.YtgbigpdiacjbgaaGreatKO45
set_option linter.unusedSimpArgs false
set_option linter.unusedVariables false
set_option maxHeartbeats 32000000
set_option maxRecDepth 100000
namespace Go.Proofs.YtgbigpdiacjbgaaGreat
open Go.RowKit
set_option maxRecDepth 100000
namespace Rm
open Plan Ops Ent Msg MO Vn Mof Cof Wire Go.Proofs.YtgbigpdiacjbgaaGreat.Ask
attribute [local go_sem ↓] storeVar_msg loadVar_msg
theorem readP_ok (s : ByteArray) {c : Nat} (hc : c ∈ letters) (x : MsgR) (r : RS) (h : (readP s c x r).2.2 = 0) : (readP s c x r).2.1.2 = 0 := by
 unfold letters at hc
 simp only [List.mem_cons,List.not_mem_nil,or_false] at hc
 rcases hc with rfl | rfl | rfl | rfl | rfl | rfl | rfl | rfl | rfl | rfl | rfl | rfl | rfl | rfl | rfl | rfl | rfl
 ·have h1 : (inC s r).2 = 0 := h
  show (rText s 65536 r).2.2 = 0
  exact Classical.byContradiction fun z => by rw [inC_err z] at h1;exact z h1
 ·exact h
 ·exact h
 ·exact h
 ·exact h
 ·exact h
 ·exact h
 ·exact h
 ·exact h
 ·exact h
 ·have h1 : errE s (rNum s 4 r).1 (rNum s 4 r).2 = 0 := h
  show (rEnts s (rNum s 4 r).1 (rNum s 4 r).2).2.1.2 = 0
  unfold errE at h1
  split at h1
  ·rename_i z;exact absurd h1 z
  ·exact h1
 ·exact h
 ·have h1 : (inB' s r).2 = 0 := h
  show (rText s 65536 r).2.2 = 0
  exact Classical.byContradiction fun z => by rw [inB_err z] at h1;exact z h1
 ·exact h
 ·exact h
 ·exact h
 ·exact h
theorem parts_nodup (k : Int) : (partsOf k).Nodup := by
 unfold partsOf
 split
 ·have h : ∀ l ∈ partsL,l.Nodup := by decide
  rw [List.getD_eq_getElem?_getD]
  cases e : partsL[k.toNat]? with
  | none => exact List.nodup_nil
  | some l => exact h l (List.mem_of_getElem? e)
 ·exact List.nodup_nil
def freshL (l : List Nat) (x : MsgR) : Prop := (69 ∈ l -> x.eA = none /\ x.ec = 0 /\ x.es = []) /\ (83 ∈ l -> x.sA = none /\ x.sc = 0 /\ x.ss = []) /\ (82 ∈ l -> x.pA = none /\ x.pc = 0 /\ x.ps = [])
theorem freshL.next {l : List Nat} {i c : Nat} {x x' : MsgR} (hn : l.Nodup) (hc : l[i]? = some c) (h : freshL (l.drop i) x) (hk : keepL c x x') : freshL (l.drop (i + 1)) x' := by
 have hd : l.drop i = c :: l.drop (i + 1) := Plan.drop_cons hc
 have hnd : (c :: l.drop (i + 1)).Nodup := by rw [<- hd];exact hn.sublist (List.drop_sublist i l)
 have hni : c ∉ l.drop (i + 1) := (List.nodup_cons.1 hnd).1
 rw [hd] at h
 obtain ⟨k1,k2,k3⟩ := hk
 refine ⟨fun hm => ?_,fun hm => ?_,fun hm => ?_⟩
 ·rcases k1 with rfl | ⟨a,b,d⟩
  ·exact absurd hm hni
  ·rw [a,b,d];exact h.1 (List.mem_cons_of_mem _ hm)
 ·rcases k2 with rfl | ⟨a,b,d⟩
  ·exact absurd hm hni
  ·rw [a,b,d];exact h.2.1 (List.mem_cons_of_mem _ hm)
 ·rcases k3 with rfl | ⟨a,b,d⟩
  ·exact absurd hm hni
  ·rw [a,b,d];exact h.2.2 (List.mem_cons_of_mem _ hm)
section
variable {w W W' : World} {s : ByteArray} {g y l5 : Nat} {m x x' : MsgR} {r r' : RS} {v : Value} {e : Ending}
theorem rd_any {B : Nat} (h : DdAt w g s r) (hs : s.size <= maxLen) (m : MsgR) (hx : XAt w B m) (hB : g < B) (hBw : B <= w.heap.size) {l : List Nat} {i c : Nat} (hc : l[i]? = some c) (hcl : c ∈ letters) (hf : freshL (l.drop i) m) : Calls Tryz.prog 38 #[.pointer (some ⟨g,0,none⟩),xagg m,.int .u8 ((c : Nat) : Int)] w (RdE w s g B c m r) := by
 have hm : c ∈ l.drop i := by rw [Plan.drop_cons hc];exact List.mem_cons_self ..
 unfold letters at hcl
 simp only [List.mem_cons,List.not_mem_nil,or_false] at hcl
 rcases hcl with rfl | rfl | rfl | rfl | rfl | rfl | rfl | rfl | rfl | rfl | rfl | rfl | rfl | rfl | rfl | rfl | rfl
 ·exact rd_of (.inl rfl) h m hx hB hBw (fun W a b d => ls_67 a hs m b hB d)
 ·exact rd_97 h hs m hx hB
 ·exact rd_101 h hs m hx hB
 ·exact rd_115 h hs m hx hB
 ·exact rd_102 h hs m hx hB
 ·exact rd_108 h hs m hx hB
 ·exact rd_110 h hs m hx hB
 ·exact rd_109 h hs m hx hB
 ·exact rd_112 h hs m hx hB
 ·exact rd_114 h hs m hx hB
 ·exact rd_of (.inr (.inr (.inl rfl))) h m hx hB hBw (fun W a b d => ls_69 a hs m b hB d (hf.1 hm))
 ·exact rd_of (.inr (.inr (.inr (.inl rfl)))) h m hx hB hBw (fun W a b d => ls_83 a hs m b hB d (hf.2.1 hm))
 ·exact rd_of (.inr (.inl rfl)) h m hx hB hBw (fun W a b d => ls_66 a hs m b hB d)
 ·exact rd_120 h hs m hx hB
 ·exact rd_107 h hs m hx hB
 ·exact rd_116 h hs m hx hB
 ·exact rd_of (.inr (.inr (.inr (.inr rfl)))) h m hx hB hBw (fun W a b d => ls_82 a hs m b hB d (hf.2.2 hm))
structure O9 (w : World) (s : ByteArray) (g y l5 : Nat) (W : World) (x : MsgR) (r : RS) : Prop where
 rd : DdAt W g s r
 hy : Has W y 63 (xcell zM).toArray
 h5 : Has W l5 63 (xcell x).toArray
 at' : XAt W (l5 + 1) x
 k : Kept NoF w W
structure Oy (w : World) (g y l5 : Nat) : Prop where
 wy : w.heap.size <= y
 yg : y < g
 g5 : g < l5
theorem O9.quiet (h : O9 w s g y l5 W x r) (hk : Kept NoF W W') : O9 w s g y l5 W' x r :=
 ⟨h.rd.kept hk (fun z => z),h.hy.kept hk (fun z => z),h.h5.kept hk (fun z => z),h.at'.kept hk (fun _ z => z.elim),h.k.then hk⟩
theorem O9.read (o : Oy w g y l5) (h : O9 w s g y l5 W x r) (hr : DRead W g s v r' e W') : e = .returned v /\ O9 w s g y l5 W' x r' := by
 obtain ⟨h1,h2,h3⟩ := hr
 have a := o.yg;have b := o.g5;have c := o.wy
 exact ⟨h1,⟨h2,h.hy.kept h3 (by omega),h.h5.kept h3 (by omega),h.at'.kept h3 (fun k hk => by omega),h.k.trans h3 (fun k hk => .inr (by omega))⟩⟩
end
theorem arm9 {wr W w5 : World} {g B z : Nat} {x m' : MsgR} (hz : Has W z 63 zcells) (hzw : wr.heap.size <= z) (hg : g < wr.heap.size) (hx : XAt wr B x) (hb : XAt w5 B m') (hk : Kept (fun k => k = g) W w5) (k1 : ∀ k,rowB m' k -> rowB x k \/ W.heap.size <= k) : ∃ W6,(storeMsg ⟨z,0,none⟩ (.agg (xcell m').toArray)).run Tryz.prog w5 = .ok () W6 /\ Has W6 z 63 (xcell m').toArray /\ XAt W6 B m' /\ Kept (fun k => wr.heap.size <= k) w5 W6 := by
 have zc := hz.kept hk (by omega)
 obtain ⟨W6,h1,h2,h3⟩ := put_msg zc rfl m'
 refine ⟨W6,h1,h2,xatKR hb h3 (fun k hk hr => ?_),h3.mono (fun k hk => by omega)⟩
 have hl := hz.lt
 rcases k1 k hr with y | y
 ·have := xatLR hx y;omega
 ·omega
theorem arm9b {wr w5 : World} {B : Nat} {m' : MsgR} (hb : XAt w5 B m') : ∃ Wz W6,w5.alloc (.cells zcells 63) = Wz /\ (storeMsg ⟨w5.heap.size,0,none⟩ (.agg (xcell m').toArray)).run Tryz.prog Wz = .ok () W6 /\ Has W6 w5.heap.size 63 (xcell m').toArray /\ XAt W6 B m' /\ Kept (fun k => wr.heap.size <= k) w5 W6 /\ Kept NoF w5 Wz := by
 obtain ⟨Wz,W6,h1,h2,h3,h4⟩ := lay_msg w5 m'
 exact ⟨Wz,W6,h1,h2,h3,hb.kept h4 (fun _ z => z.elim),h4.mono (fun _ z => z.elim),by rw [<- h1];(repeat' (first | (with_reducible first | exact kR0 | apply kP0 | apply kN0 | apply kD0 | apply kA0) | (right;simp;done)))⟩
attribute [local go_sem] run_loadMsg
theorem rof9_any (w : World) (s : ByteArray) (hs : s.size <= maxLen) : Calls Tryz.prog 17 #[.string s] w (OfPost w s) := by
 obtain ⟨W0,hW0⟩ : ∃ W0,w.alloc (.cells (xcell zM).toArray 63) = W0 := ⟨_,rfl⟩
 obtain ⟨W1,hW1⟩ : ∃ W1,W0.alloc (.cells #[.string s,.int .i64 0,.int .i64 0] 91) = W1 := ⟨_,rfl⟩
 obtain ⟨Wz,W4,hWz,hst4,hb4,hk4⟩ := lay_msg W1 zM
 have hk0 : Kept NoF w W0 := by rw [<- hW0];(repeat' (first | (with_reducible first | exact kR0 | apply kP0 | apply kN0 | apply kD0 | apply kA0) | (right;simp;done)))
 have hk1 : Kept NoF W0 W1 := by rw [<- hW1];(repeat' (first | (with_reducible first | exact kR0 | apply kP0 | apply kN0 | apply kD0 | apply kA0) | (right;simp;done)))
 have hy0 : Has W0 w.heap.size 63 (xcell zM).toArray := by rw [<- hW0];exact Has.new _ _ _
 have hr1 : DdAt W1 W0.heap.size s (0,0) := by rw [<- hW1];exact ⟨Has.new _ _ _,Nat.zero_le _⟩
 have ho : Oy w w.heap.size W0.heap.size W1.heap.size \/ True := .inr trivial
 have hod : Oy w W0.heap.size w.heap.size W1.heap.size := ⟨Nat.le_refl _,hy0.lt,hr1.1.lt⟩
 have h9 : O9 w s W0.heap.size w.heap.size W1.heap.size W4 zM (0,0) := ⟨hr1.kept hk4 (fun z => z),(hy0.kept hk1 (fun z => z)).kept hk4 (fun z => z),hb4,XAt.zero _ _ 0,(hk0.then hk1).then hk4⟩
 clear ho
 have hnum := dnum_any W4 W0.heap.size s (0,0) 15 h9.rd hs (by decide)
 have hn15 := rNum_le s 15 (0,0)
 have hno := fun h => rNum_no (s := s) (most := 15) (r := (0,0)) h
 have hfin : ∀ W' x er,ofM s = (strip x,er) -> XAt W' w.heap.size x -> Kept NoF w W' -> OfPost w s (.returned (.tuple #[xagg x,.int .i64 er])) W' := fun W' x er e1 hx hk => ⟨x,by rw [e1],by rw [e1],hx,hk⟩
 have hofm : ofM s = if (rNum s 15 (0,0)).2.2 ≠ 0 then (zM,(rNum s 15 (0,0)).2.2)
   else if isKind (rNum s 15 (0,0)).1 = false then (zM,11)
   else if (readL s (partsOf (rNum s 15 (0,0)).1) { zM with k := (rNum s 15 (0,0)).1 } (rNum s 15 (0,0)).2).2.2 ≠ 0 then (zM,(readL s (partsOf (rNum s 15 (0,0)).1) { zM with k := (rNum s 15 (0,0)).1 } (rNum s 15 (0,0)).2).2.2)
   else if rEnd s (readL s (partsOf (rNum s 15 (0,0)).1) { zM with k := (rNum s 15 (0,0)).1 } (rNum s 15 (0,0)).2).2.1 ≠ 0 then (zM,rEnd s (readL s (partsOf (rNum s 15 (0,0)).1) { zM with k := (rNum s 15 (0,0)).1 } (rNum s 15 (0,0)).2).2.1)
   else if chkM (readL s (partsOf (rNum s 15 (0,0)).1) { zM with k := (rNum s 15 (0,0)).1 } (rNum s 15 (0,0)).2).1 ≠ 0 then (zM,chkM (readL s (partsOf (rNum s 15 (0,0)).1) { zM with k := (rNum s 15 (0,0)).1 } (rNum s 15 (0,0)).2).1)
   else ((readL s (partsOf (rNum s 15 (0,0)).1) { zM with k := (rNum s 15 (0,0)).1 } (rNum s 15 (0,0)).2).1,0) := rfl
 obtain ⟨q,hq⟩ : ∃ q,rNum s 15 (0,0) = q := ⟨_,rfl⟩
 rw [hq] at hofm hnum hn15 hno
 obtain ⟨n,a1,er⟩ := q
 dsimp only at hofm hnum hn15 hno
 obtain ⟨y,hy⟩ : ∃ y,w.heap.size = y := ⟨_,rfl⟩
 obtain ⟨g,hg⟩ : ∃ g,W0.heap.size = g := ⟨_,rfl⟩
 obtain ⟨l5,hl5⟩ : ∃ l5,W1.heap.size = l5 := ⟨_,rfl⟩
 rw [hy,hg,hl5] at hod h9
 rw [hg] at hnum
 rw [hl5] at hst4
 have hwy := hy
 have hbad : ∀ W x' r',O9 w s g y l5 W x' r' -> ∃ W6,(storeMsg ⟨y,0,none⟩ (.agg (kcells 0))).run Tryz.prog W = .ok () W6 /\ Has W6 y 63 (xcell zM).toArray /\ Kept NoF w W6 := fun W x' r' hm => by
  obtain ⟨W6,h1,h2,h3⟩ := lay_y hm.hy zM
  exact ⟨W6,h1,h2,hm.k.trans h3 (fun i hi => .inr (by have := hod.wy;omega))⟩
 have hgood : ∀ W x' r',O9 w s g y l5 W x' r' -> ∃ W6,(storeMsg ⟨y,0,none⟩ (.agg (xcell x').toArray)).run Tryz.prog W = .ok () W6 /\ Has W6 y 63 (xcell x').toArray /\ Kept NoF w W6 /\ XAt W6 w.heap.size x' := fun W x' r' hm => by
  obtain ⟨W6,h1,h2,h3⟩ := lay_y hm.hy x'
  exact ⟨W6,h1,h2,hm.k.trans h3 (fun i hi => .inr (by have := hod.wy;omega)),(hm.at'.kept h3 (fun k hk => by have := hod.yg;have := hod.g5;omega)).mono (by have := hod.yg;have := hod.g5;have := hod.wy;omega)⟩
 have HNUM := hZ0 hnum;have HFIN := hZ0 hfin;have HOFM := hZ0 hofm;have HO := hZ0 hod;have H9 := hZ0 h9;have HN15 := hZ0 hn15;have HNO := hZ0 hno;have HBAD := hZ0 hbad;have HGOOD := hZ0 hgood
 generalize OfPost w s = Q at HFIN ⊢
 unfold xcell zM at hW0 hst4
 dsimp only [List.length_nil] at hW0 hst4
 clear hnum hfin hofm hod h9 hn15 hno hbad hgood hk0 hk1 hy0 hr1 hb4 hk4 hq hwy
 go_enter Tryz.func17,Tryz.ntmps17
 go_wp2_with fail
 clear hW0 hW1 hWz hst4 hy hg hl5
 refine HNUM.out.mono ?_
 intro e w4 hr
 obtain ⟨rfl,h9⟩ := H9.out.read HO.out hr
 have c0 : w4.cell? ⟨l5,0,none⟩ = some (.int .i64 0) := h9.h5.cell 0
 have f0 := h9.h5.frozen 0
 have hkl : Kept (fun k => k = l5) w4 (w4.setCell ⟨l5,0,none⟩ (.int .i64 (n : Int))) := (Kept.refl _ w4).put (.inl rfl)
 have h9' : O9 w s g y l5 (w4.setCell ⟨l5,0,none⟩ (.int .i64 (n : Int))) { zM with k := (n : Int) } (a1,er) := by
  have a := HO.out.yg;have b := HO.out.g5;have c := HO.out.wy
  exact ⟨h9.rd.kept hkl (by omega),h9.hy.kept hkl (by omega),Has.put_of h9.h5 rfl,XAt.zero _ _ _,h9.k.trans hkl (fun k hk => .inr (by omega))⟩
 obtain ⟨W5,hW5⟩ : ∃ W5,w4.setCell ⟨l5,0,none⟩ (.int .i64 (n : Int)) = W5 := ⟨_,rfl⟩
 rw [hW5] at h9'
 have qe : W5.cell? ⟨g,2,none⟩ = some (.int .i64 er) := h9'.rd.1.cell 2
 have q0 : W5.cell? ⟨l5,0,none⟩ = some (.int .i64 (n : Int)) := h9'.h5.cell 0
 have H95 := hZ0 h9'
 clear hr h9 hkl h9' HNUM H9
 by_cases he : er = 0
 rotate_left
 ·-- the number cannot be read
  have he2 : (er == 0) = false := by simpa using he
  have hn0 := HNO.out he
  subst hn0
  change w4.setCell ⟨l5,0,none⟩ (.int .i64 0) = W5 at hW5
  change W5.cell? ⟨l5,0,none⟩ = some (.int .i64 0) at q0
  have hof := HOFM.out
  rw [if_pos he] at hof
  have hpa := pa_zero W5
  have HOF := hZ0 hof;have HPA := hZ0 hpa;have HE := hZ0 he
  clear hof hpa he HOFM HNO HN15
  go_wp2_with fail
  clear hW5 c0 f0 qe q0
  refine HPA.out.mono ?_
  rintro e w6 ⟨rfl,hk6⟩
  have H96 := hZ0 (H95.out.quiet hk6)
  clear hk6 H95
  go_wp2_with fail
  go_loopw [7] (fun v7 wr => v7 = .int .i64 0 /\ O9 w s g y l5 wr { zM with k := ((0 : Nat) : Int) } (a1,er)) (fun v7 _ => 0)
  case atStart => exact ⟨rfl,H96.out⟩
  case round =>
   obtain ⟨rfl,h97⟩ := hrel
   clear H96
   have qe : wr.cell? ⟨g,2,none⟩ = some (.int .i64 er) := h97.rd.1.cell 2
   have hend := dend_any wr g s (a1,er) h97.rd hs
   have hre : rEnd s (a1,er) = er := if_pos HE.out
   rw [hre] at hend
   have HEND := hZ0 hend;have H97 := hZ0 h97
   clear hend hre h97
   go_wp2_with fail
   refine HEND.out.mono ?_
   rintro e w8 ⟨rfl,hk8⟩
   obtain ⟨W6,hst,hy6,hk7⟩ := HBAD.out w8 _ _ (H97.out.quiet hk8)
   have HY6 := hZ0 hy6;have HK6 := hZ0 hk7
   have he3 : (er != 0) = true := by have := HE.out;simpa using this
   clear hy6 hk7 hk8 qe
   go_wp2_with fail
   refine bodyPost_ret (results_row_tmp rfl _ _ y _ rfl (run_loadMsg_has _ _ _ HY6.out)) rfl ?_
   exact HFIN.out W6 zM er HOF.out (XAt.zero _ _ 0) HK6.out
 subst he
 have hof := HOFM.out
 rw [if_neg (by simp)] at hof
 have HOF1 := hZ0 hof
 clear hof HOFM HNO
 by_cases hn0 : n = 0
 ·-- no kind
  subst hn0
  change w4.setCell ⟨l5,0,none⟩ (.int .i64 0) = W5 at hW5
  change W5.cell? ⟨l5,0,none⟩ = some (.int .i64 0) at q0
  have hof := HOF1.out
  rw [if_pos (by decide)] at hof
  have HOF := hZ0 hof
  clear hof HOF1
  obtain ⟨W6,hst,hy6,hk7⟩ := HBAD.out W5 _ _ H95.out
  have HY6 := hZ0 hy6;have HK6 := hZ0 hk7
  clear hy6 hk7
  go_wp2_with fail
  refine bodyPost_ret (results_row_tmp rfl _ _ y _ rfl (run_loadMsg_has _ _ _ HY6.out)) rfl ?_
  exact HFIN.out W6 zM 11 HOF.out (XAt.zero _ _ 0) HK6.out
 have hkd : isKind (n : Int) = true := by have := HN15.out;unfold isKind;apply decide_eq_true;omega
 have hn1 : ((n : Int) == 0) = false := by simpa using hn0
 have hpa := pa_yes W5 (k := (n : Int)) hkd
 have hof := HOF1.out
 rw [if_neg (by rw [hkd];decide)] at hof
 have hlet := parts_letters (n : Int)
 have hnd := parts_nodup (n : Int)
 have hl7 := parts_len (n : Int)
 obtain ⟨l,hl⟩ : ∃ l,partsOf (n : Int) = l := ⟨_,rfl⟩
 rw [hl] at hpa hof hlet hl7 hnd
 have hsz := rlets_size l
 have hsm : ∀ c ∈ l,c < 256 := fun c hc => by
  have := hlet c hc
  unfold letters at this
  simp only [List.mem_cons,List.not_mem_nil,or_false] at this
  omega
 have hix0 : ∀ (i c : Nat),l[i]? = some c -> ∀ W,(Instr.index 9 (.string (lets l)) (.int .i64 i)).run Tryz.prog W = .ok (.int .u8 c) W := fun i c hc W => by
  obtain ⟨hi,e⟩ := rlets_at hsm hc
  rw [run_index_string W 9 (lets l) .i64 i (by rfl),dif_pos ⟨by omega,by omega⟩]
  simp only [Int.toNat_natCast,e]
 obtain ⟨p,hp⟩ : ∃ p,lets l = p := ⟨_,rfl⟩
 rw [hp] at hpa hsz
 simp only [hp] at hix0
 have HOF := hZ0 hof;have HPA := hZ0 hpa;have HLET := hZ0 hlet;have HND := hZ0 hnd;have HL7 := hZ0 hl7;have HKD := hZ0 hkd;have HSZ := hZ0 hsz;have HIX := hZ0 hix0
 clear hof hpa HOF1 hkd hlet hnd hl7 hl hsz hsm hix0 hp
 go_wp2_with fail
 clear hW5 c0 f0 qe q0 hn1 hn0
 refine HPA.out.mono ?_
 rintro e w6 ⟨rfl,hk6⟩
 have H96 := hZ0 (H95.out.quiet hk6)
 clear hk6 H95
 go_wp2_with fail
 go_loopw [7] (fun v7 wr => ∃ (i : Nat) (x' : MsgR) (r' : RS),i <= l.length /\ v7 = .int .i64 i /\ O9 w s g y l5 wr x' r' /\ freshL (l.drop i) x' /\ ((r'.2 = 0 /\ x'.k = n /\ readL s (l.take i) { zM with k := (n : Int) } (a1,0) = (strip x',r',0)) \/ (r'.2 ≠ 0 /\ (readL s l { zM with k := (n : Int) } (a1,0)).2.2 = r'.2))) (fun v7 _ => l.length - (intOf v7).toNat)
 case atStart => exact ⟨0,_,_,Nat.zero_le _,rfl,H96.out,⟨fun _ => ⟨rfl,rfl,rfl⟩,fun _ => ⟨rfl,rfl,rfl⟩,fun _ => ⟨rfl,rfl,rfl⟩⟩,.inl ⟨rfl,rfl,by rw [List.take_zero];rfl⟩⟩
 case round =>
  obtain ⟨i,x',r',hi,rfl,h97,hfr,hst⟩ := hrel
  clear H96
  have hsz := HSZ.out
  have qe : wr.cell? ⟨g,2,none⟩ = some (.int .i64 r'.2) := h97.rd.1.cell 2
  have hcase : (i < l.length /\ r'.2 = 0 /\ x'.k = n /\ readL s (l.take i) { zM with k := (n : Int) } (a1,0) = (strip x',r',0)) \/ ((i = l.length \/ r'.2 ≠ 0) /\ (rEnd s r' ≠ 0 -> ofM s = (zM,rEnd s r')) /\ (rEnd s r' = 0 -> x'.k = n /\ ofM s = if chkM x' ≠ 0 then (zM,chkM x') else (strip x',0))) := by
   have hofx := HOF.out
   rcases hst with ⟨h1,hxk,h2⟩ | ⟨h1,h2⟩
   ·by_cases hil : i < l.length
    ·exact .inl ⟨hil,h1,hxk,h2⟩
    ·have hie : i = l.length := by omega
     rw [hie,List.take_length] at h2
     rw [h2] at hofx
     dsimp only at hofx
     rw [if_neg (by simp)] at hofx
     refine .inr ⟨.inl hie,fun h => ?_,fun h => ?_⟩
     ·rw [if_pos h] at hofx;exact hofx
     ·rw [if_neg (fun z => z h),chkM_strip] at hofx;exact ⟨hxk,hofx⟩
   ·rw [if_pos (by rw [h2];exact h1),h2] at hofx
    have hre : rEnd s r' = r'.2 := if_pos h1
    exact .inr ⟨.inr h1,fun _ => by rw [hre];exact hofx,fun h => absurd (hre.symm.trans h) h1⟩
  clear hst
  rcases hcase with ⟨hil,h1,hxk,h2⟩ | ⟨hout,hx1,hx2⟩
  ·obtain ⟨a2,e2⟩ := r'
   dsimp only at h1 qe
   subst h1
   obtain ⟨c,hc⟩ : ∃ c,l[i]? = some c := ⟨_,List.getElem?_eq_getElem hil⟩
   have hcm := List.mem_of_getElem? hc
   have g1 : (i : Int) < (p.size : Int) := by omega
   have hix := HIX.out i c hc
   have h5w : l5 + 1 <= wr.heap.size := h97.h5.lt
   have hrd := fun W (hW : Kept NoF wr W) => rd_any (h97.quiet hW).rd hs x' (h97.quiet hW).at' (by have := HO.out.g5;omega) (Nat.le_trans h5w hW.size) hc (HLET.out c hcm) hfr
   unfold RdE at hrd
   have hS : ∀ W,Kept (fun k => k = g) wr W -> MsgIn W ⟨l5,0,none⟩ /\ msgAt W ⟨l5,0,none⟩ = (xcell x').toArray := fun W hW => msgIn_has (h97.h5.kept hW (by have := HO.out.g5;omega))
   have hci : l[i] = c := by rw [List.getElem?_eq_getElem hil] at hc;exact Option.some.inj hc
   have htk : l.take (i + 1) = l.take i ++ [c] := by rw [List.take_succ_eq_append_getElem hil,hci]
   have hnext : readL s (l.take (i + 1)) { zM with k := (n : Int) } (a1,0) = if (readP s c (strip x') (a2,0)).2.2 ≠ 0 then readP s c (strip x') (a2,0) else ((readP s c (strip x') (a2,0)).1,(readP s c (strip x') (a2,0)).2.1,0) := by
    rw [htk,readL_app,h2,if_neg (by simp),readL_one]
   have hall : ∀ z,readL s (l.take (i + 1)) { zM with k := (n : Int) } (a1,0) = z -> z.2.2 ≠ 0 -> readL s l { zM with k := (n : Int) } (a1,0) = z := fun z e1 e2 => by
    have h9 := readL_app s (l.take (i + 1)) (l.drop (i + 1)) { zM with k := (n : Int) } (a1,0)
    rw [List.take_append_drop,e1,if_pos e2] at h9
    exact h9
   have hrok := readP_ok s (HLET.out c hcm) (strip x') (a2,0)
   have hkk : ∀ x2,strip x2 = (readP s c (strip x') (a2,0)).1 -> x2.k = n := fun x2 e => by
    have h9 := congrArg MsgR.k e
    rw [readP_k] at h9
    exact h9.trans hxk
   obtain ⟨cs,hcs⟩ : ∃ cs,(xcell x').toArray = cs := ⟨_,rfl⟩
   unfold xagg at hrd
   rw [hcs] at hrd hS
   have HRD := hZ0 hrd;have HS := hZ0 hS;have HC := hZ0 hc;have HFR := hZ0 hfr;have HNX := hZ0 hnext;have HALL := hZ0 hall;have HKK := hZ0 hkk;have HROK := hZ0 hrok;have HOUT := hZ0 (And.intro hil hi);have H97 := hZ0 h97
   have HIX1 := hZ0 hix;have HGW := hZ0 (show g < wr.heap.size from H97.out.rd.1.lt)
   obtain ⟨s1,s2⟩ := hS wr (Kept.refl _ _)
   clear hrd hS hc hfr hnext hall hkk hrok hcm hci htk h2 hcs h97 h5w hxk
   go_wp2_with fail
   clear qe
   go_region_held3 (fun W => MsgIn W ⟨l5,0,none⟩ /\ msgAt W ⟨l5,0,none⟩ = cs) (first | with_reducible exact y6 | with_reducible exact y7 | with_reducible exact y5 | with_reducible exact ⟨s1,s2⟩ | exact HS.out _ (Kept.up'' (by (repeat' (first | (with_reducible first | exact kR0 | apply kP0 | apply kN0 | apply kD0 | apply kA0) | (right;simp;done))))) | with_reducible exact hix _ | exact HS.out _ (HK5.out.trans (by (repeat' (first | (with_reducible first | exact kR0 | apply kP0 | apply kN0 | apply kD0 | apply kA0) | (right;simp;done)))) (fun _ z => z.elim)))
    (first | (go_at_call 38;refine (HRD.out _ (by (repeat' (first | (with_reducible first | exact kR0 | apply kP0 | apply kN0 | apply kD0 | apply kA0) | (right;simp;done))))).mono ?_;rintro e w5 ⟨m',er,r2,rfl,ha,hb,hk,k1,kl,k2,k3⟩;have hk5 : Kept (fun k => k = g) wr w5 := (Kept.trans (F := fun k => k = g) (Kept.up'' (by (repeat' (first | (with_reducible first | exact kR0 | apply kP0 | apply kN0 | apply kD0 | apply kA0) | (right;simp;done))))) hk (fun _ z => .inl z));(first
      | (have a9 := arm9 (Has.new wr 63 zcells) (Nat.le_refl _) HGW.out H97.out.at' hb hk k1;obtain ⟨W6,hst,hb6,hx6,hk6⟩ := a9)
      | (have a9 := arm9 (Has.new wr.drew 63 zcells) (Nat.le_refl _) HGW.out H97.out.at' hb hk k1;obtain ⟨W6,hst,hb6,hx6,hk6⟩ := a9)
      | (have a9 := arm9 (Has.drew (Has.new wr 63 zcells)) (Nat.le_refl _) HGW.out H97.out.at' hb hk k1;obtain ⟨W6,hst,hb6,hx6,hk6⟩ := a9)
      | (obtain ⟨Wz,W6,hWz,hst,hb6,hx6,hk6,hkz⟩ := arm9b (wr := wr) hb;have y7 := HS.out Wz (hk5.trans hkz (fun _ z => z.elim));clear hkz));have HB6 := hZ0 hb6;have HX6 := hZ0 hx6;have y5 := HS.out w5 hk5;have hk56 := Kept.trans hk5 hk6 (fun k hk => .inr hk);have y6 := HS.out W6 hk56;have HK56 := hZ0 hk56;have HA5 := hZ0 (And.intro ha hk6);have HQ := hZ0 (And.intro kl (And.intro k2 k3));clear ha hb hk k1 kl k2 k3 hk5 hb6 hx6 hk6 hk56))
   all_goals
    have hrd6 : DdAt W6 g s r2 := HA5.out.1.kept HA5.out.2 (by have := HGW.out;omega)
    have hwg : w.heap.size <= g := by have := HO.out.wy;have := HO.out.yg;omega
    have h5w : l5 < wr.heap.size := H97.out.h5.lt
    have hk06 : Kept NoF w W6 := H97.out.k.trans HK56.out (fun k hk => .inr (by omega))
    have hy6 := H97.out.hy.kept HK56.out (by have := HO.out.yg;omega)
    have h56 := H97.out.h5.kept HK56.out (by have := HO.out.g5;omega)
    obtain ⟨kl,k2,k3⟩ := HQ.out
    have hok := HROK.out
    have hnx := HNX.out
    have hal := HALL.out
    have hkk := HKK.out
    obtain ⟨q,hq⟩ : ∃ q,readP s c (strip x') (a2,0) = q := ⟨_,rfl⟩
    rw [hq] at k2 k3 hok hnx
    simp only [hq] at hkk
    obtain ⟨qx,qr,qe⟩ := q
    dsimp only at k2 k3 hok hnx hkk
    by_cases he : er = 0
    ·subst he
     obtain ⟨W7,hst7,hb7,hk7⟩ := put_msg h56 rfl m'
     have h97' : O9 w s g y l5 W7 m' r2 := ⟨hrd6.kept hk7 (by have := HO.out.g5;omega),hy6.kept hk7 (by have := HO.out.yg;have := HO.out.g5;omega),hb7,HX6.out.kept hk7 (fun k hk => by omega),hk06.trans hk7 (fun k hk => .inr (by have := HO.out.g5;omega))⟩
     have hfr := HFR.out.next HND.out HC.out kl
     have hst2 : (r2.2 = 0 /\ m'.k = n /\ readL s (l.take (i + 1)) { zM with k := (n : Int) } (a1,0) = (strip m',r2,0)) \/ (r2.2 ≠ 0 /\ (readL s l { zM with k := (n : Int) } (a1,0)).2.2 = r2.2) := by
      by_cases hz : qe = 0
      ·obtain ⟨_,e1,e2⟩ := k2 hz
       exact .inl ⟨by rw [e1];exact hok hz,hkk _ e2,by rw [hnx,if_neg (fun z => z hz),e1,e2]⟩
      ·have e1 : r2.2 = qe := by
        rcases k3 hz with e | ⟨_,e⟩
        ·exact absurd e.symm hz
        ·exact e
       rw [if_pos hz] at hnx
       have e2 := hal _ hnx hz
       exact .inr ⟨by rw [e1];exact hz,by rw [e2,e1]⟩
     have hlz := run_loadMsg_has W6 _ _ HB6.out
     have H7 := hZ0 h97';have HFR2 := hZ0 hfr;have HST2 := hZ0 hst2
     have hl7 := HL7.out
     have hin := HOUT.out
     clear hrd6 hwg h5w hk06 hy6 h56 kl k2 k3 hok hnx hal hkk hq hb7 hk7 h97' hfr hst2
     go_wp2
     go_roundw
     case rel => exact ⟨i + 1,m',r2,by omega,by go_num,H7.out,HFR2.out,HST2.out⟩
     case measure => simp [intOf];omega
    ·have he2 : (er != 0) = true := by simpa using he
     have hqe : qe = er := by
      by_cases hz : qe = 0
      ·exact absurd (k2 hz).1 he
      ·rcases k3 hz with e | ⟨e,_⟩
       ·exact e.symm
       ·exact absurd e he
     subst hqe
     rw [if_pos he] at hnx
     have hof := HOF.out
     rw [hal _ hnx he] at hof
     dsimp only at hof
     rw [if_pos he] at hof
     obtain ⟨W8,hst8,hy8,hk8⟩ := lay_y hy6 zM
     have hend := HFIN.out W8 zM qe hof (XAt.zero _ _ 0) (hk06.trans hk8 (fun k hk => .inr (by have := HO.out.wy;omega)))
     change (storeMsg ⟨y,0,none⟩ (.agg (kcells 0))).run Tryz.prog W6 = .ok () W8 at hst8
     have HY8 := hZ0 hy8;have HEND := hZ0 hend
     clear hrd6 hwg h5w hk06 hy6 h56 kl k2 k3 hok hnx hal hkk hq hy8 hk8 hof he hend
     go_wp2_with fail
     refine bodyPost_ret (results_row_tmp rfl _ _ y _ rfl (run_loadMsg_has _ _ _ HY8.out)) rfl ?_
     exact HEND.out
  ·have hend := dend_any wr g s r' h97.rd hs
   obtain ⟨ee,hee⟩ : ∃ ee,rEnd s r' = ee := ⟨_,rfl⟩
   rw [hee] at hend hx1 hx2
   have HEND := hZ0 hend;have H97 := hZ0 h97;have HX1 := hZ0 hx1;have HX2 := hZ0 hx2
   obtain ⟨a2,e2⟩ := r'
   dsimp only at qe hout
   have hw : ((i : Int) < (p.size : Int) /\ (e2 == 0) = false) \/ ¬ (i : Int) < (p.size : Int) := by
    rcases hout with h | h
    ·exact .inr (by omega)
    ·by_cases hil : (i : Int) < (p.size : Int)
     ·exact .inl ⟨hil,by simpa using h⟩
     ·exact .inr hil
   clear hend h97 hx1 hx2 hee hout hfr
   rcases hw with ⟨g1,g2⟩ | g1
   all_goals
    go_wp2_with fail
    refine HEND.out.mono ?_
    rintro e w8 ⟨rfl,hk8⟩
    have h98 := H97.out.quiet hk8
    by_cases hez : ee = 0
    rotate_left
    ·have he3 : (ee != 0) = true := by simpa using hez
     obtain ⟨W6,hst,hy6,hk7⟩ := HBAD.out w8 _ _ h98
     have HY6 := hZ0 hy6;have HFF := hZ0 (HFIN.out W6 zM ee (HX1.out hez) (XAt.zero _ _ 0) hk7)
     clear hy6 hk7 hk8 h98 hez qe
     go_wp2_with fail
     refine bodyPost_ret (results_row_tmp rfl _ _ y _ rfl (run_loadMsg_has _ _ _ HY6.out)) rfl ?_
     exact HFF.out
    ·subst hez
     obtain ⟨hxk,hofx⟩ := HX2.out rfl
     have hck := check_yes w8 x' h98.at' (by rw [hxk];exact HKD.out)
     have hfx : ∀ W,O9 w s g y l5 W x' (a2,e2) -> chkM x' = 0 -> ∃ W6,(storeMsg ⟨y,0,none⟩ (.agg (xcell x').toArray)).run Tryz.prog W = .ok () W6 /\ Has W6 y 63 (xcell x').toArray /\ Q (.returned (.tuple #[xagg x',.int .i64 0])) W6 := fun W hW h0 => by
      obtain ⟨W6,h1,h2,h3,h4⟩ := HGOOD.out W _ _ hW
      exact ⟨W6,h1,h2,HFIN.out W6 x' 0 (by rw [hofx,if_neg (fun z => z h0)]) h4 h3⟩
     have hbx : chkM x' ≠ 0 -> ofM s = (zM,chkM x') := fun h0 => by rw [hofx,if_pos h0]
     have hlx := fun W (hW : O9 w s g y l5 W x' (a2,e2)) => run_loadMsg_has W l5 x' hW.h5
     have hl8 := hlx w8 h98
     obtain ⟨ck,hckv⟩ : ∃ ck,chkM x' = ck := ⟨_,rfl⟩
     rw [hckv] at hck hbx
     simp only [hckv] at hfx
     obtain ⟨cs,hcs⟩ : ∃ cs,(xcell x').toArray = cs := ⟨_,rfl⟩
     have HCSX := hZ0 hcs
     unfold xagg at hck hfx
     rw [hcs] at hck hl8
     simp only [hcs] at hfx hlx
     have HCK := hZ0 hck;have HFX := hZ0 hfx;have HBX := hZ0 hbx;have HLX := hZ0 hlx;have H98 := hZ0 h98
     clear hck hfx hbx hlx h98 hk8 hxk hofx hckv hcs qe
     go_wp2_with fail
     clear hl8
     refine HCK.out.mono ?_
     rintro e w9 ⟨rfl,hk9⟩
     have h99 := H98.out.quiet hk9
     by_cases h0 : ck = 0
     ·subst h0
      obtain ⟨W6,hst,hy6,hq⟩ := HFX.out w9 h99 rfl
      have hl9 := HLX.out w9 h99
      have HY6 := hZ0 (show (loadMsg ⟨y,0,none⟩).run Tryz.prog W6 = .ok (.agg cs) W6 from by have h9 := hy6;rw [<- HCSX.out] at h9 ⊢;exact run_loadMsg_has _ _ _ h9);have HQF := hZ0 hq
      clear hy6 hq hk9 h99
      go_wp2_with fail
      refine bodyPost_ret (results_row_tmp rfl _ _ y _ rfl HY6.out) rfl ?_
      exact HQF.out
     ·have he3 : (ck != 0) = true := by simpa using h0
      obtain ⟨W6,hst,hy6,hk7⟩ := HBAD.out w9 _ _ h99
      have HY6 := hZ0 hy6;have HFF := hZ0 (HFIN.out W6 zM ck (HBX.out h0) (XAt.zero _ _ 0) hk7)
      clear hy6 hk7 hk9 h99 h0
      go_wp2_with fail
      refine bodyPost_ret (results_row_tmp rfl _ _ y _ rfl (run_loadMsg_has _ _ _ HY6.out)) rfl ?_
      exact HFF.out
end Rm
namespace Ask
open Plan Ops Ent Msg MO Vn
attribute [local go_sem ↓] storeVar_msg loadVar_msg
section
variable {w : World} {p : Option Addr}
def NoT (w : World) (p : Option Addr) : Prop := p = none \/ ∃ b,p = some ⟨b,0,none⟩ /\ Has w b 109 #[.nilIface,.int .i64 0,.int .i64 0,.bool false,.int .i64 0,.int .i64 0,.int .u64 0,.int .i64 0,.slice none 0 0]
theorem NoT.kept {w w' : World} {p : Option Addr} (h : NoT w p) (hk : Kept NoF w w') : NoT w' p := by
 rcases h with h | ⟨b,h,hh⟩
 ·exact .inl h
 ·exact .inr ⟨b,h,hh.kept hk (fun z => z)⟩
end
end Ask
end Go.Proofs.YtgbigpdiacjbgaaGreat

/- Part 45 of what the proof needs. -/
import Derived.Test.YtgbigpdiacjbgaaGreatKO43
set_option linter.unusedSimpArgs false
set_option linter.unusedVariables false
set_option maxHeartbeats 32000000
set_option maxRecDepth 100000
namespace Go.Proofs.YtgbigpdiacjbgaaGreat
open Go.RowKit
set_option maxRecDepth 100000
namespace Rm
open Plan Ops Ent Msg MO Vn Mof Cof Wire Go.Proofs.YtgbigpdiacjbgaaGreat.Ask
attribute [local go_sem ↓] storeVar_msg loadVar_msg
theorem rBig_stuck (s : ByteArray) {r : RS} (h : r.2 ≠ 0) : (rBig s r).2 = r := by unfold rBig;rw [if_pos h]
theorem rText_stuck (s : ByteArray) (k : Nat) {r : RS} (h : r.2 ≠ 0) : (rText s k r).2 = r := by
 unfold rText
 rw [rBig_stuck s h,if_pos h]
theorem rStamps_ts (s : ByteArray) (r : RS) : ∀ k,∀ z ∈ (rStamps s k r).1,0 <= z /\ z <= maxTs := by
 intro k
 induction k with
 | zero => intro z hz;cases hz
 | succ k ih =>
  intro z hz
  rcases List.mem_append.1 hz with h | h
  ·exact ih z h
  ·rw [List.mem_singleton.1 h];exact big_ts s _
theorem rStamps_stuck (s : ByteArray) (r : RS) {i : Nat} (h : (rStamps s i r).2.2 ≠ 0) : ∀ k,(rStamps s (i + k) r).2 = (rStamps s i r).2 := by
 intro k
 induction k with
 | zero => rfl
 | succ k ih =>
  show (rBig s (rStamps s (i + k) r).2).2 = _
  rw [rBig_stuck s (by rw [ih];exact h),ih]
theorem rPairs_stuck (s : ByteArray) (r : RS) {i : Nat} (h : (rPairs s i r).2.2 ≠ 0) : ∀ k,(rPairs s (i + k) r).2 = (rPairs s i r).2 := by
 intro k
 induction k with
 | zero => rfl
 | succ k ih =>
  show (rText s 8 (rText s 8 (rPairs s (i + k) r).2).2).2 = _
  rw [rText_stuck s 8 (r := (rPairs s (i + k) r).2) (by rw [ih];exact h),rText_stuck s 8 (by rw [ih];exact h),ih]
section
variable {w W W' : World} {s : ByteArray} {g b4 b6 l8 : Nat} {m x x' : MsgR} {r r' : RS} {v : Value} {e : Ending}
theorem Dm.grown (o : Oo w g b4 b6 l8) (h : Dm w s g b4 b6 l8 m x r W) {W1 W6 : World} (hW : Kept NoF W W1) {u : Value} {B8 : Nat} (hB : l8 < B8) (hr : ∀ k,u.ownBlock = some k -> B8 <= k) (hg : W1.grownBy W6 u.ownBlock) : Dm w s g b4 b6 l8 m x r W6 /\ Kept (fun k => u.ownBlock = some k) W W6 := by
 have hk : Kept (fun k => u.ownBlock = some k) W W6 := Kept.grownBy (hW.mono (fun _ z => z.elim)) hg (fun k hk => .inl hk)
 have a := o.gw;have b := o.w4;have c := o.l46;have d := o.l68
 have hn : ∀ k,k <= l8 -> ¬ u.ownBlock = some k := fun k h1 h2 => by have := hr k h2;omega
 exact ⟨⟨h.rd.kept hk (hn g (by omega)),h.h4.kept hk (hn b4 (by omega)),h.h6.kept hk (hn b6 (by omega)),h.h8.kept hk (hn l8 (Nat.le_refl _)),h.k.trans hk (fun k hk => .inr (by have := hr k hk;omega))⟩,hk⟩
theorem Dm.far (o : Oo w g b4 b6 l8) (h : Dm w s g b4 b6 l8 m x r W) {z : Nat} (hz : l8 + 1 <= z) (hk : Kept (fun k => k = z) W W') : Dm w s g b4 b6 l8 m x r W' := by
 have a := o.gw;have b := o.w4;have c := o.l46;have d := o.l68
 exact ⟨h.rd.kept hk (by omega),h.h4.kept hk (by omega),h.h6.kept hk (by omega),h.h8.kept hk (by omega),h.k.trans hk (fun k hk => .inr (by omega))⟩
theorem newsl_put {W : World} {e : TypeId} {size B n c l8 i : Nat} {A : Option Addr} {xs : List Value} {u : Value} (h : NewSl e size B W A n c xs) (hl : l8 < B) : NewSl e size B (W.setCell ⟨l8,i,none⟩ u) A n c xs :=
 ⟨own_kept (F := fun k => k = l8) h.1 ((Kept.refl _ W).put (.inl rfl)) (fun k hk e => by have := h.2 k hk;omega),h.2⟩
theorem newsl_g {W W' : World} {e : TypeId} {size B n c : Nat} {A : Option Addr} {xs : List Value} {F : Nat -> Prop} (h : NewSl e size B W A n c xs) (hk : Kept F W W') (hF : ∀ k,F k -> k < B) : NewSl e size B W' A n c xs :=
 ⟨own_kept h.1 hk (fun k hk f => by have h1 := h.2 k hk;have h2 := hF k f;omega),h.2⟩
theorem push83 {wr w5 w6 : World} {A A1 : Option Addr} {c c1 : Nat} {l : List Int} {z : Int} (o : Oo w g b4 b6 l8) (h : Dm w s g b4 b6 l8 m { m with sA := A,sc := c,ss := l } r wr) (hr : NewSl 22 1 (l8 + 1) wr A l.length c (u64s l)) (hk : Kept NoF wr w5)
  (ho : w6.ownsRow 0 22 1 (.slice A1 (l.length + 1) c1) (l.length + 1) (u64s l ++ [.int .u64 z])) (hg : w5.grownBy w6 (Value.slice A l.length c).ownBlock) (ha : (Value.slice A1 (l.length + 1) c1).ownBlock = (Value.slice A l.length c).ownBlock \/ (Value.slice A1 (l.length + 1) c1).ownBlock = some w5.heap.size) :
  Has w6 l8 63 (xcell { m with sA := A,sc := c,ss := l }).toArray /\ (Dm w s g b4 b6 l8 m { m with sA := A1,sc := c1,ss := l ++ [z] } r (w6.setCell ⟨l8,20,none⟩ (.slice A1 (l.length + 1) c1)) /\ NewSl 22 1 (l8 + 1) (w6.setCell ⟨l8,20,none⟩ (.slice A1 (l.length + 1) c1)) A1 (l.length + 1) c1 (u64s (l ++ [z]))) := by
 obtain ⟨h1,h2⟩ := h.grown o hk (Nat.lt_succ_self l8) hr.2 hg
 have hB : l8 + 1 <= w5.heap.size := Nat.le_trans h.h8.lt hk.size
 have hlen : (l ++ [z]).length = l.length + 1 := by simp
 refine ⟨h1.h8,h1.put o (by unfold xcell;dsimp only;rw [hlen];rfl),?_⟩
 rw [u64s_snoc]
 exact newsl_put ⟨ho,fun k hk' => by
  rcases ha with e | e
  ·exact hr.2 k (e.symm.trans hk')
  ·have h9 := e.symm.trans hk'
   injection h9 with h9
   omega⟩ (Nat.lt_succ_self l8)
theorem ls_83 {B : Nat} (h : DdAt w g s r) (hs : s.size <= maxLen) (m : MsgR) (hx : XAt w B m) (hB : g < B) (hBw : B <= w.heap.size) (h0 : m.sA = none /\ m.sc = 0 /\ m.ss = []) : Calls Tryz.prog 71 #[.pointer (some ⟨g,0,none⟩),xagg m,.int .u8 83] w (RdE w s g B 83 m r) := by
 obtain ⟨W0,W1,Wz,W8,hW0,hW1,hWz,hl,hst,hd,ho⟩ := Dm.start h m
 have hrd := dnum_any W8 g s r 8 hd.rd hs (by decide)
 have hn8 := rNum_le s 8 r
 have hxe : m = { m with sA := none,sc := 0,ss := [] } := by
  cases m
  dsimp only at h0
  obtain ⟨rfl,rfl,rfl⟩ := h0
  rfl
 have hp : readP s 83 (strip m) r = ({ strip m with ss := (rStamps s (rNum s 8 r).1 (rNum s 8 r).2).1 },(rStamps s (rNum s 8 r).1 (rNum s 8 r).2).2,(rStamps s (rNum s 8 r).1 (rNum s 8 r).2).2.2) := by rw [show readP s 83 (strip m) r = ({ strip m with ss := m.ss ++ (rStamps s (rNum s 8 r).1 (rNum s 8 r).2).1 },(rStamps s (rNum s 8 r).1 (rNum s 8 r).2).2,(rStamps s (rNum s 8 r).1 (rNum s 8 r).2).2.2) from rfl,h0.2.2,List.nil_append]
 have hfin : ∀ W W5 A cc (i : Nat),i <= (rNum s 8 r).1 -> (i = (rNum s 8 r).1 \/ (rStamps s i (rNum s 8 r).2).2.2 ≠ 0) -> (i = 0 -> A = none /\ cc = 0) -> NewSl 22 1 (W1.heap.size + 1) W A (rStamps s i (rNum s 8 r).2).1.length cc (u64s (rStamps s i (rNum s 8 r).2).1) -> Dm w s g w.heap.size W0.heap.size W1.heap.size m { m with sA := A,sc := cc,ss := (rStamps s i (rNum s 8 r).2).1 } (rStamps s i (rNum s 8 r).2).2 W -> DdAt W5 g s (rStamps s i (rNum s 8 r).2).2 -> Kept (fun k => k = g) w W5 -> Kept (fun k => k = W0.heap.size) W W5 ->
   RdE w s g B 83 m r (.returned (.tuple #[xagg { m with sA := A,sc := cc,ss := (rStamps s i (rNum s 8 r).2).1 },.int .i64 0])) W5 := fun W W5 A cc i hi hor hz0 hrow hdm a b d => by
  have hx := hx.kept b (fun k hk => by omega)
  have hrow5 := newsl_g hrow d (fun k hk => by have := ho.l68;omega)
  have hll : (rStamps s i (rNum s 8 r).2).1.length = i := rStamps_len s (rNum s 8 r).2 i
  have hww : w.heap.size <= W1.heap.size + 1 := by have := ho.w4;have := ho.l46;have := ho.l68;omega
  refine ⟨_,0,_,rfl,a,⟨hx.m,hx.mc,hx.mn,hx.ml,hx.o,hx.oc,hx.on,hx.e,hx.ec,hx.en,hx.el,hx.eo,⟨hrow5.1,fun k hk => by have := hrow5.2 k hk;omega⟩,by dsimp only;omega,fun y hy => rStamps_ts s _ i y hy,hx.p,hx.pc,hx.pn,hx.pl,hx.t,fun e => hz0 (by have h9 : (rStamps s i (rNum s 8 r).2).1.length = 0 := congrArg List.length e;omega),hx.pm⟩,b,fun k hk => ?_,⟨.inr ⟨rfl,rfl,rfl⟩,.inl rfl,.inr ⟨rfl,rfl,rfl⟩⟩,fun hz => ?_,fun hz => ?_⟩
  ·unfold rowB at hk ⊢
   dsimp only at hk
   rcases hk with z | z | z | z | z | z
   ·exact .inl (.inl z)
   ·exact .inl (.inr (.inl z))
   ·exact .inl (.inr (.inr (.inl z)))
   ·exact .inl (.inr (.inr (.inr (.inl z))))
   ·exact .inr (by have h1 := hrow.2 k z;omega)
   ·exact .inl (.inr (.inr (.inr (.inr (.inr z)))))
  ·rw [hp] at hz ⊢
   dsimp only at hz ⊢
   rcases hor with rfl | hor
   ·exact ⟨rfl,rfl,rfl⟩
   ·have h9 := rStamps_stuck s (rNum s 8 r).2 hor ((rNum s 8 r).1 - i)
    rw [show i + ((rNum s 8 r).1 - i) = (rNum s 8 r).1 by omega] at h9
    rw [h9] at hz
    exact absurd hz hor
  ·rw [hp] at hz ⊢
   dsimp only at hz ⊢
   rcases hor with rfl | hor
   ·exact .inr ⟨rfl,rfl⟩
   ·have h9 := rStamps_stuck s (rNum s 8 r).2 hor ((rNum s 8 r).1 - i)
    rw [show i + ((rNum s 8 r).1 - i) = (rNum s 8 r).1 by omega] at h9
    rw [h9]
    exact .inr ⟨rfl,rfl⟩
 generalize RdE w s g B 83 m r = Q at hfin ⊢
 obtain ⟨q,hq⟩ : ∃ q,rNum s 8 r = q := ⟨_,rfl⟩
 rw [hq] at hrd hn8
 simp only [hq] at hfin
 obtain ⟨n,r3⟩ := q
 dsimp only at hrd hn8 hfin
 obtain ⟨b4,hb4⟩ : ∃ b,w.heap.size = b := ⟨_,rfl⟩
 obtain ⟨b6,hb6⟩ : ∃ b,W0.heap.size = b := ⟨_,rfl⟩
 obtain ⟨l8,hb8⟩ : ∃ b,W1.heap.size = b := ⟨_,rfl⟩
 rw [hb4] at hl
 rw [hb8] at hst
 rw [hb4,hb6,hb8] at hd ho
 simp only [hb4,hb6,hb8] at hfin
 have h8w : l8 + 1 <= W8.heap.size := hd.h8.lt
 have HRD := hZ0 hrd;have HFIN := hZ0 hfin;have HD := hZ0 hd;have HO := hZ0 ho;have HN8 := hZ0 hn8;have HXE := hZ0 hxe;have H8W := hZ0 h8w
 obtain ⟨cs,hcs⟩ : ∃ cs,(xcell m).toArray = cs := ⟨_,rfl⟩
 unfold xagg
 rw [hcs] at hW0 hl hst ⊢
 clear hrd hfin hd ho hx hB hBw hq hp h hcs hn8 hxe h0 h8w
 go_enter Tryz.func71,Tryz.ntmps71
 go_wp2_with fail
 clear hW0 hW1 hWz hl hst hb4 hb6 hb8
 refine HRD.out.mono ?_
 intro e w3 hr
 obtain ⟨rfl,hd3,hk3⟩ := HD.out.read HO.out hr
 have HD3 := hZ0 hd3;have H83 := hZ0 (Nat.le_trans H8W.out hk3.size)
 clear hr hd3 hk3 HD HRD H8W
 go_wp2_with fail
 go_loopw [17] (fun v17 wr => ∃ (i : Nat) (A : Option Addr) (cc : Nat),i <= n /\ v17 = .int .i64 i /\ (i = 0 -> A = none /\ cc = 0) /\ NewSl 22 1 (l8 + 1) wr A (rStamps s i r3).1.length cc (u64s (rStamps s i r3).1) /\ Dm w s g b4 b6 l8 m { m with sA := A,sc := cc,ss := (rStamps s i r3).1 } (rStamps s i r3).2 wr) (fun v17 _ => n - (intOf v17).toNat)
 case atStart => exact ⟨0,none,0,Nat.zero_le _,rfl,(fun _ => ⟨rfl,rfl⟩),⟨⟨rfl,.inl ⟨rfl,rfl⟩⟩,fun k hk => by simp [Value.ownBlock] at hk⟩,by have h9 := HD3.out;rw [HXE.out] at h9;exact ⟨h9.rd,by rw [HXE.out];exact h9.h4,h9.h6,h9.h8,h9.k⟩⟩
 case round =>
  obtain ⟨i,A,cc,hi,rfl,hz0,hrow,hdm⟩ := hrel
  clear HD3 HXE
  have qe : wr.cell? ⟨g,2,none⟩ = some (.int .i64 (rStamps s i r3).2.2) := hdm.rd.1.cell 2
  have hlen := rStamps_len s r3 i
  have hfe := fun (hor : i = n \/ (rStamps s i r3).2.2 ≠ 0) W5 => HFIN.out wr W5 A cc i hi hor hz0 hrow hdm
  have hstep : rStamps s (i + 1) r3 = ((rStamps s i r3).1 ++ [((rBig s (rStamps s i r3).2).1 : Int)],(rBig s (rStamps s i r3).2).2) := rfl
  obtain ⟨l,hl⟩ : ∃ l,(rStamps s i r3).1 = l := ⟨_,rfl⟩
  obtain ⟨ra,hra⟩ : ∃ ra,(rStamps s i r3).2 = ra := ⟨_,rfl⟩
  rw [hl] at hlen
  rw [hl,hra] at hstep
  rw [hra] at qe
  rw [hl] at hrow
  rw [hl,hra] at hdm
  simp only [hl,hra] at hfe
  clear hl hra hz0
  obtain ⟨a1,er⟩ := ra
  dsimp only at qe hfe
  by_cases hin : i < n
  rotate_left
  ·have hie : i = n := by omega
   have HFE := hZ0 (hfe (.inl hie));have HD1 := hZ0 hdm
   clear hfe hdm hrow hstep hie hlen HFIN qe
   obtain ⟨W5,hst5,h65,hrd5,hk5,hk6⟩ := HD1.out.fin HO.out
   have hl4 := run_loadMsg_has _ l8 _ HD1.out.h8
   have hend := HFE.out W5 hrd5 hk5 hk6
   have HEND := hZ0 hend;have H65 := hZ0 (run_loadMsg_has _ _ _ h65)
   obtain ⟨cs2,hcs2⟩ : ∃ cs,(xcell { m with sA := A,sc := cc,ss := l }).toArray = cs := ⟨_,rfl⟩
   unfold xagg at HEND
   rw [hcs2] at hst5 hl4 H65 HEND
   clear hrd5 hk5 hk6 hend h65 hcs2 HD1 HFE
   go_wp2_with fail
   refine bodyPost_ret (results_row_tmp rfl _ _ b6 _ rfl H65.out) rfl ?_
   exact HEND.out
  by_cases he : er = 0
  rotate_left
  ·have he2 : (er == 0) = false := by simpa using he
   have HFE := hZ0 (hfe (.inr he));have HD1 := hZ0 hdm
   clear hfe hdm hrow hstep he hlen HFIN
   obtain ⟨W5,hst5,h65,hrd5,hk5,hk6⟩ := HD1.out.fin HO.out
   have hl4 := run_loadMsg_has _ l8 _ HD1.out.h8
   have hend := HFE.out W5 hrd5 hk5 hk6
   have HEND := hZ0 hend;have H65 := hZ0 (run_loadMsg_has _ _ _ h65)
   obtain ⟨cs2,hcs2⟩ : ∃ cs,(xcell { m with sA := A,sc := cc,ss := l }).toArray = cs := ⟨_,rfl⟩
   unfold xagg at HEND
   rw [hcs2] at hst5 hl4 H65 HEND
   clear hrd5 hk5 hk6 hend h65 hcs2 HD1 HFE
   go_wp2_with fail
   refine bodyPost_ret (results_row_tmp rfl _ _ b6 _ rfl H65.out) rfl ?_
   exact HEND.out
  subst he
  clear hfe
  have hts := big_ts s (a1,0)
  have hbig : ∀ W1,Kept NoF wr W1 -> Calls Tryz.prog 68 #[.pointer (some ⟨g,0,none⟩)] W1 fun e w5 => e = .returned (.int .u64 (rBig s (a1,0)).1) /\ Dm w s g b4 b6 l8 m { m with sA := A,sc := cc,ss := l } (rBig s (a1,0)).2 w5 /\ NewSl 22 1 (l8 + 1) w5 A l.length cc (u64s l) := fun W1 hW => (dbig_any W1 g s (a1,0) (hdm.quiet hW).rd hs).mono fun e w5 hr => by
   obtain ⟨h1,h2,h3⟩ := (hdm.quiet hW).read HO.out hr
   exact ⟨h1,h2,newsl_g (hrow.kept hW) h3 (fun k hk => by have := HO.out.gw;have := HO.out.w4;have := HO.out.l46;have := HO.out.l68;omega)⟩
  obtain ⟨q,hq⟩ : ∃ q,rBig s (a1,0) = q := ⟨_,rfl⟩
  rw [hq] at hstep hts
  simp only [hq] at hbig
  obtain ⟨nb,r5⟩ := q
  dsimp only at hstep hts hbig
  have m0 : wr.cell? ⟨l8,20,none⟩ = some (.slice A l.length cc) := hdm.h8.cell 20
  have f0 := hdm.h8.frozen 20
  rw [hlen] at m0
  have hwz : l8 + 1 <= wr.heap.size := hdm.h8.lt
  have HSTEP := hZ0 hstep;have HTS := hZ0 hts;have HBIG := hZ0 hbig;have HLEN := hZ0 hlen;have HWZ := hZ0 hwz
  have HM1 : Hid (i + 1 <= maxLen) := hZ0 (by unfold maxLen;have := HN8.out;omega)
  have HM2 : Hid ((i + 1) * 8 <= 140737488355328) := hZ0 (by have := HN8.out;omega)
  clear hstep hts hbig hq hlen hdm hrow HFIN hwz
  go_wp2_with fail
  clear qe
  go_region_law (first
   | (go_simp;go_at_call 68;refine (HBIG.out _ (by (repeat' (first | (with_reducible first | exact kR0 | apply kP0 | apply kN0 | apply kD0 | apply kA0) | (right;simp;done))))).mono ?_;rintro e w5 ⟨rfl,hs5,hr5⟩;have m5 : w5.cell? ⟨l8,20,none⟩ = some (.slice A i cc) := (by rw [<- HLEN.out];exact hs5.h8.cell 20);have HS5 := hZ0 hs5;have HR5 := hZ0 hr5;have hmlt : l8 < w5.heap.size := hs5.h8.lt;clear hs5 hr5)
   | (with_reducible apply step_append_src elemU64M (.tmp 108) (.tmp 111) (n := i) (xs := u64s l) (A := some ⟨_,0,none⟩) (m := 1) (c := 1) (news := [.int .u64 nb])
      rfl
      rfl
      exact (rfl : _ = Value.slice A i cc)
      (refine own_kept (F := NoF) (by rw [<- HLEN.out];exact HR5.out.1) ?_ (fun _ _ x => x);(repeat' (first | (with_reducible first | exact kR0 | apply kP0 | apply kN0 | apply kD0 | apply kA0) | (right;simp;done))))
      exact (rfl : _ = Value.slice (some ⟨_,0,none⟩) 1 1)
      (refine Src.of_has (t := 22) (cs := #[.int .u64 nb]) ?_ rfl;(repeat (first | with_reducible exact Has.new_at _ _ _ (by simp) | with_reducible apply Has.drew | with_reducible apply Has.drewN | with_reducible apply Has.alloc | (with_reducible apply Has.past <;> (try omega)) )))
      (intro u hu;simp at hu;rcases hu with rfl;rfl)
      exact HM1.out
      exact HM2.out
      intro A6 c6 w6 ho6 hg6 ha6
      rw [<- HLEN.out] at ho6 hg6 ha6
      obtain ⟨h6,hs6⟩ := push83 (z := (nb : Int)) HO.out HS5.out HR5.out (by (repeat' (first | (with_reducible first | exact kR0 | apply kP0 | apply kN0 | apply kD0 | apply kA0) | (right;simp;done)))) ho6 hg6 ha6
      have c6' : w6.cell? ⟨l8,20,none⟩ = some (.slice A l.length cc) := h6.cell 20
      have f6' := h6.frozen 20
      rw [HLEN.out] at hs6
      have HS6 := hZ0 hs6;clear ho6 hg6 ha6 h6 hs6))
  all_goals
   clear c6' f6'
   have hn8 := HN8.out
   go_wp2
   go_roundw
   case rel => exact ⟨i + 1,A6,c6,by omega,by go_num,(fun e => absurd e (by omega)),by rw [HSTEP.out];simpa [HLEN.out] using HS6.out.2,by rw [HSTEP.out];exact HS6.out.1⟩
   case measure => simp [intOf];omega
theorem push82 {wr w5 w6 : World} {A A1 : Option Addr} {c c1 : Nat} {l : List PairR} {z : PairR} (o : Oo w g b4 b6 l8) (h : Dm w s g b4 b6 l8 m { m with pA := A,pc := c,ps := l } r wr) (hr : NewSl 84 2 (l8 + 1) wr A l.length c (pcells l)) (hk : Kept NoF wr w5)
  (ho : w6.ownsRow 0 84 2 (.slice A1 (l.length + 1) c1) (l.length + 1) (pcells l ++ [.string z.key,.string z.val])) (hg : w5.grownBy w6 (Value.slice A l.length c).ownBlock) (ha : (Value.slice A1 (l.length + 1) c1).ownBlock = (Value.slice A l.length c).ownBlock \/ (Value.slice A1 (l.length + 1) c1).ownBlock = some w5.heap.size) :
  Has w6 l8 63 (xcell { m with pA := A,pc := c,ps := l }).toArray /\ (Dm w s g b4 b6 l8 m { m with pA := A1,pc := c1,ps := l ++ [z] } r (w6.setCell ⟨l8,21,none⟩ (.slice A1 (l.length + 1) c1)) /\ NewSl 84 2 (l8 + 1) (w6.setCell ⟨l8,21,none⟩ (.slice A1 (l.length + 1) c1)) A1 (l.length + 1) c1 (pcells (l ++ [z]))) := by
 obtain ⟨h1,h2⟩ := h.grown o hk (Nat.lt_succ_self l8) hr.2 hg
 have hB : l8 + 1 <= w5.heap.size := Nat.le_trans h.h8.lt hk.size
 have hlen : (l ++ [z]).length = l.length + 1 := by simp
 refine ⟨h1.h8,h1.put o (by unfold xcell;dsimp only;rw [hlen];rfl),?_⟩
 rw [pcells_snocM]
 exact newsl_put ⟨ho,fun k hk' => by
  rcases ha with e | e
  ·exact hr.2 k (e.symm.trans hk')
  ·have h9 := e.symm.trans hk'
   injection h9 with h9
   omega⟩ (Nat.lt_succ_self l8)
theorem ls_82 {B : Nat} (h : DdAt w g s r) (hs : s.size <= maxLen) (m : MsgR) (hx : XAt w B m) (hB : g < B) (hBw : B <= w.heap.size) (h0 : m.pA = none /\ m.pc = 0 /\ m.ps = []) : Calls Tryz.prog 71 #[.pointer (some ⟨g,0,none⟩),xagg m,.int .u8 82] w (RdE w s g B 82 m r) := by
 obtain ⟨W0,W1,Wz,W8,hW0,hW1,hWz,hl,hst,hd,ho⟩ := Dm.start h m
 have hrd := dnum_any W8 g s r 32 hd.rd hs (by decide)
 have hn8 := rNum_le s 32 r
 have hxe : m = { m with pA := none,pc := 0,ps := [] } := by
  cases m
  dsimp only at h0
  obtain ⟨rfl,rfl,rfl⟩ := h0
  rfl
 have hp : readP s 82 (strip m) r = ({ strip m with ps := (rPairs s (rNum s 32 r).1 (rNum s 32 r).2).1 },(rPairs s (rNum s 32 r).1 (rNum s 32 r).2).2,(rPairs s (rNum s 32 r).1 (rNum s 32 r).2).2.2) := rfl
 have hfin : ∀ W W5 A cc (i : Nat),i <= (rNum s 32 r).1 -> (i = (rNum s 32 r).1 \/ (rPairs s i (rNum s 32 r).2).2.2 ≠ 0) -> (i = 0 -> A = none /\ cc = 0) -> NewSl 84 2 (W1.heap.size + 1) W A (rPairs s i (rNum s 32 r).2).1.length cc (pcells (rPairs s i (rNum s 32 r).2).1) -> Dm w s g w.heap.size W0.heap.size W1.heap.size m { m with pA := A,pc := cc,ps := (rPairs s i (rNum s 32 r).2).1 } (rPairs s i (rNum s 32 r).2).2 W -> DdAt W5 g s (rPairs s i (rNum s 32 r).2).2 -> Kept (fun k => k = g) w W5 -> Kept (fun k => k = W0.heap.size) W W5 ->
   RdE w s g B 82 m r (.returned (.tuple #[xagg { m with pA := A,pc := cc,ps := (rPairs s i (rNum s 32 r).2).1 },.int .i64 0])) W5 := fun W W5 A cc i hi hor hz0 hrow hdm a b d => by
  have hx := hx.kept b (fun k hk => by omega)
  have hrow5 := newsl_g hrow d (fun k hk => by have := ho.l68;omega)
  have hll : (rPairs s i (rNum s 32 r).2).1.length = i := rPairs_len s (rNum s 32 r).2 i
  have hww : w.heap.size <= W1.heap.size + 1 := by have := ho.w4;have := ho.l46;have := ho.l68;omega
  refine ⟨_,0,_,rfl,a,⟨hx.m,hx.mc,hx.mn,hx.ml,hx.o,hx.oc,hx.on,hx.e,hx.ec,hx.en,hx.el,hx.eo,hx.s,hx.sl,hx.so,Src.of_own hrow5.1,(own_cap hrow5.1).1,fun ad e => by have h1 := row_above hrow5 ad e;omega,by dsimp only;omega,hx.t,hx.s0,(own_cap hrow5.1).2⟩,b,fun k hk => ?_,⟨.inr ⟨rfl,rfl,rfl⟩,.inr ⟨rfl,rfl,rfl⟩,.inl rfl⟩,fun hz => ?_,fun hz => ?_⟩
  ·unfold rowB at hk ⊢
   dsimp only at hk
   rcases hk with z | z | z | z | z | z
   ·exact .inl (.inl z)
   ·exact .inl (.inr (.inl z))
   ·exact .inl (.inr (.inr (.inl z)))
   ·exact .inl (.inr (.inr (.inr (.inl z))))
   ·exact .inl (.inr (.inr (.inr (.inr (.inl z)))))
   ·obtain ⟨_,ad,e,rfl⟩ := z;exact .inr (by have h1 := row_above hrow ad e;omega)
  ·rw [hp] at hz ⊢
   dsimp only at hz ⊢
   rcases hor with rfl | hor
   ·exact ⟨rfl,rfl,rfl⟩
   ·have h9 := rPairs_stuck s (rNum s 32 r).2 hor ((rNum s 32 r).1 - i)
    rw [show i + ((rNum s 32 r).1 - i) = (rNum s 32 r).1 by omega] at h9
    rw [h9] at hz
    exact absurd hz hor
  ·rw [hp] at hz ⊢
   dsimp only at hz ⊢
   rcases hor with rfl | hor
   ·exact .inr ⟨rfl,rfl⟩
   ·have h9 := rPairs_stuck s (rNum s 32 r).2 hor ((rNum s 32 r).1 - i)
    rw [show i + ((rNum s 32 r).1 - i) = (rNum s 32 r).1 by omega] at h9
    rw [h9]
    exact .inr ⟨rfl,rfl⟩
 generalize RdE w s g B 82 m r = Q at hfin ⊢
 obtain ⟨q,hq⟩ : ∃ q,rNum s 32 r = q := ⟨_,rfl⟩
 rw [hq] at hrd hn8
 simp only [hq] at hfin
 obtain ⟨n,r3⟩ := q
 dsimp only at hrd hn8 hfin
 obtain ⟨b4,hb4⟩ : ∃ b,w.heap.size = b := ⟨_,rfl⟩
 obtain ⟨b6,hb6⟩ : ∃ b,W0.heap.size = b := ⟨_,rfl⟩
 obtain ⟨l8,hb8⟩ : ∃ b,W1.heap.size = b := ⟨_,rfl⟩
 rw [hb4] at hl
 rw [hb8] at hst
 rw [hb4,hb6,hb8] at hd ho
 simp only [hb4,hb6,hb8] at hfin
 have h8w : l8 + 1 <= W8.heap.size := hd.h8.lt
 have HRD := hZ0 hrd;have HFIN := hZ0 hfin;have HD := hZ0 hd;have HO := hZ0 ho;have HN8 := hZ0 hn8;have HXE := hZ0 hxe;have H8W := hZ0 h8w
 obtain ⟨cs,hcs⟩ : ∃ cs,(xcell m).toArray = cs := ⟨_,rfl⟩
 unfold xagg
 rw [hcs] at hW0 hl hst ⊢
 clear hrd hfin hd ho hx hB hBw hq hp h hcs hn8 hxe h0 h8w
 go_enter Tryz.func71,Tryz.ntmps71
 go_wp2_with fail
 clear hW0 hW1 hWz hl hst hb4 hb6 hb8
 refine HRD.out.mono ?_
 intro e w3 hr
 obtain ⟨rfl,hd3,hk3⟩ := HD.out.read HO.out hr
 have HD3 := hZ0 hd3;have H83 := hZ0 (Nat.le_trans H8W.out hk3.size)
 clear hr hd3 hk3 HD HRD H8W
 go_wp2_with fail
 go_loopw [19] (fun v19 wr => ∃ (i : Nat) (A : Option Addr) (cc : Nat),i <= n /\ v19 = .int .i64 i /\ (i = 0 -> A = none /\ cc = 0) /\ NewSl 84 2 (l8 + 1) wr A (rPairs s i r3).1.length cc (pcells (rPairs s i r3).1) /\ Dm w s g b4 b6 l8 m { m with pA := A,pc := cc,ps := (rPairs s i r3).1 } (rPairs s i r3).2 wr) (fun v19 _ => n - (intOf v19).toNat)
 case atStart => exact ⟨0,none,0,Nat.zero_le _,rfl,(fun _ => ⟨rfl,rfl⟩),⟨⟨rfl,.inl ⟨rfl,rfl⟩⟩,fun k hk => by simp [Value.ownBlock] at hk⟩,by have h9 := HD3.out;rw [HXE.out] at h9;exact ⟨h9.rd,by rw [HXE.out];exact h9.h4,h9.h6,h9.h8,h9.k⟩⟩
 case round =>
  obtain ⟨i,A,cc,hi,rfl,hz0,hrow,hdm⟩ := hrel
  clear HD3 HXE
  have qe : wr.cell? ⟨g,2,none⟩ = some (.int .i64 (rPairs s i r3).2.2) := hdm.rd.1.cell 2
  have hlen := rPairs_len s r3 i
  have hfe := fun (hor : i = n \/ (rPairs s i r3).2.2 ≠ 0) W5 => HFIN.out wr W5 A cc i hi hor hz0 hrow hdm
  have hstep : rPairs s (i + 1) r3 = ((rPairs s i r3).1 ++ [⟨(rText s 8 (rPairs s i r3).2).1,(rText s 8 (rText s 8 (rPairs s i r3).2).2).1⟩],(rText s 8 (rText s 8 (rPairs s i r3).2).2).2) := rfl
  obtain ⟨l,hl⟩ : ∃ l,(rPairs s i r3).1 = l := ⟨_,rfl⟩
  obtain ⟨ra,hra⟩ : ∃ ra,(rPairs s i r3).2 = ra := ⟨_,rfl⟩
  rw [hl] at hlen
  rw [hl,hra] at hstep
  rw [hra] at qe
  rw [hl] at hrow
  rw [hl,hra] at hdm
  simp only [hl,hra] at hfe
  clear hl hra hz0
  obtain ⟨a1,er⟩ := ra
  dsimp only at qe hfe
  by_cases hin : i < n
  rotate_left
  ·have hie : i = n := by omega
   have HFE := hZ0 (hfe (.inl hie));have HD1 := hZ0 hdm
   clear hfe hdm hrow hstep hie hlen HFIN qe
   obtain ⟨W5,hst5,h65,hrd5,hk5,hk6⟩ := HD1.out.fin HO.out
   have hl4 := run_loadMsg_has _ l8 _ HD1.out.h8
   have hend := HFE.out W5 hrd5 hk5 hk6
   have HEND := hZ0 hend;have H65 := hZ0 (run_loadMsg_has _ _ _ h65)
   obtain ⟨cs2,hcs2⟩ : ∃ cs,(xcell { m with pA := A,pc := cc,ps := l }).toArray = cs := ⟨_,rfl⟩
   unfold xagg at HEND
   rw [hcs2] at hst5 hl4 H65 HEND
   clear hrd5 hk5 hk6 hend h65 hcs2 HD1 HFE
   go_wp2_with fail
   refine bodyPost_ret (results_row_tmp rfl _ _ b6 _ rfl H65.out) rfl ?_
   exact HEND.out
  by_cases he : er = 0
  rotate_left
  ·have he2 : (er == 0) = false := by simpa using he
   have HFE := hZ0 (hfe (.inr he));have HD1 := hZ0 hdm
   clear hfe hdm hrow hstep he hlen HFIN
   obtain ⟨W5,hst5,h65,hrd5,hk5,hk6⟩ := HD1.out.fin HO.out
   have hl4 := run_loadMsg_has _ l8 _ HD1.out.h8
   have hend := HFE.out W5 hrd5 hk5 hk6
   have HEND := hZ0 hend;have H65 := hZ0 (run_loadMsg_has _ _ _ h65)
   obtain ⟨cs2,hcs2⟩ : ∃ cs,(xcell { m with pA := A,pc := cc,ps := l }).toArray = cs := ⟨_,rfl⟩
   unfold xagg at HEND
   rw [hcs2] at hst5 hl4 H65 HEND
   clear hrd5 hk5 hk6 hend h65 hcs2 HD1 HFE
   go_wp2_with fail
   refine bodyPost_ret (results_row_tmp rfl _ _ b6 _ rfl H65.out) rfl ?_
   exact HEND.out
  subst he
  clear hfe
  have hnext := hstep
  obtain ⟨p1,hp1⟩ : ∃ p,rText s 8 (a1,0) = p := ⟨_,rfl⟩
  obtain ⟨k1,ra⟩ := p1
  rw [hp1] at hnext
  dsimp only at hnext
  obtain ⟨p2,hp2⟩ : ∃ p,rText s 8 ra = p := ⟨_,rfl⟩
  obtain ⟨v1,rb⟩ := p2
  rw [hp2] at hnext
  dsimp only at hnext
  have HNX := hZ0 hnext;have HP := hZ0 (And.intro hp1 hp2);have HLEN := hZ0 hlen
  have hz0 := Has.new wr 84 #[.string ⟨#[]⟩,.string ⟨#[]⟩]
  have hka : Kept NoF wr (wr.alloc (.cells #[.string ⟨#[]⟩,.string ⟨#[]⟩] 84)) := (Kept.refl NoF wr).alloc _
  have hda := hdm.quiet hka
  have hra := hrow.kept hka
  have hrz : ∀ k,(Value.slice A l.length cc).ownBlock = some k -> k < wr.heap.size := fun k hk => own_lt hrow.1 hk
  have hwz : l8 + 1 <= wr.heap.size := hdm.h8.lt
  clear hstep hnext hp1 hp2 hdm hrow HFIN hlen hka
  go_wp2_with fail
  clear qe
  obtain ⟨W7,hW7⟩ : ∃ W7,wr.alloc (.cells #[.string ⟨#[]⟩,.string ⟨#[]⟩] 84) = W7 := ⟨_,rfl⟩
  obtain ⟨z,hz⟩ : ∃ z,wr.heap.size = z := ⟨_,rfl⟩
  rw [hW7] at hda hra hz0 ⊢
  rw [hz] at hz0 hrz hwz ⊢
  have HZ := hZ0 (And.intro hwz hrz);have HDA := hZ0 hda;have HRA := hZ0 hra;have HZ0 := hZ0 hz0
  clear hda hra hz0 hrz hwz hz hW7
  have hgz : ∀ k,k = g -> k < l8 + 1 := fun k hk => by have := HO.out.gw;have := HO.out.w4;have := HO.out.l46;have := HO.out.l68;omega
  have HGZ := hZ0 hgz;clear hgz
  refine (dtext_any _ g s (a1,0) 8 HDA.out.rd hs (by decide)).mono ?_
  intro e w6 hr
  obtain ⟨rfl,hd6,hk6⟩ := HDA.out.read HO.out hr
  rw [HP.out.1] at hd6 ⊢
  dsimp only at hd6 ⊢
  have hz1 := HZ0.out.kept hk6 (fun e => by have := HZ.out.1;have := HGZ.out z e;omega)
  have z0 := hz1.cell 0
  have zf0 := hz1.frozen 0
  simp only [List.getElem?_toArray,List.getElem?_cons_zero,List.getElem?_cons_succ] at z0
  have hr6 := newsl_g HRA.out hk6 HGZ.out
  have hkz : Kept (fun k => k = z) w6 (w6.setCell ⟨z,0,none⟩ (.string k1)) := (Kept.refl _ w6).put (.inl rfl)
  have hz2 : Has (w6.setCell ⟨z,0,none⟩ (.string k1)) z 84 #[.string k1,.string ⟨#[]⟩] := Has.put_of hz1 rfl
  have hd7 := hd6.far HO.out HZ.out.1 hkz
  have hr7 : NewSl 84 2 (l8 + 1) (w6.setCell ⟨z,0,none⟩ (.string k1)) A l.length cc (pcells l) := ⟨own_kept hr6.1 hkz (fun k hk e => by have := HZ.out.2 k hk;omega),hr6.2⟩
  have HD7 := hZ0 hd7;have HR7 := hZ0 hr7;have HZ2 := hZ0 hz2
  clear hr hd6 hk6 hz1 hr6 hkz hz2 hd7 hr7 HDA HRA HZ0
  go_wp2_with fail
  clear z0 zf0
  refine (dtext_any _ g s ra 8 HD7.out.rd hs (by decide)).mono ?_
  intro e w8 hr
  obtain ⟨rfl,hd8,hk8⟩ := HD7.out.read HO.out hr
  rw [HP.out.2] at hd8 ⊢
  dsimp only at hd8 ⊢
  have hz3 := HZ2.out.kept hk8 (fun e => by have := HZ.out.1;have := HGZ.out z e;omega)
  have z1 := hz3.cell 1
  have zf1 := hz3.frozen 1
  simp only [List.getElem?_toArray,List.getElem?_cons_zero,List.getElem?_cons_succ] at z1
  have hr8 := newsl_g HR7.out hk8 HGZ.out
  have hkz : Kept (fun k => k = z) w8 (w8.setCell ⟨z,1,none⟩ (.string v1)) := (Kept.refl _ w8).put (.inl rfl)
  have hz4 : Has (w8.setCell ⟨z,1,none⟩ (.string v1)) z 84 #[.string k1,.string v1] := Has.put_of hz3 rfl
  have zz0 := hz4.cell 0
  have zz1 := hz4.cell 1
  simp only [List.getElem?_toArray,List.getElem?_cons_zero,List.getElem?_cons_succ] at zz0 zz1
  have hd9 := hd8.far HO.out HZ.out.1 hkz
  have hr9 : NewSl 84 2 (l8 + 1) (w8.setCell ⟨z,1,none⟩ (.string v1)) A l.length cc (pcells l) := ⟨own_kept hr8.1 hkz (fun k hk e => by have := HZ.out.2 k hk;omega),hr8.2⟩
  have x1 : (w8.setCell ⟨z,1,none⟩ (.string v1)).cell? ⟨l8,21,none⟩ = some (.slice A l.length cc) := hd9.h8.cell 21
  have HD9 := hZ0 hd9;have HR9 := hZ0 hr9
  clear hr hd8 hk8 hz3 hr8 hkz hz4 hd9 hr9 HD7 HR7 HZ2
  have HM1 : Hid (l.length + 1 <= maxLen) := hZ0 (by have := HN8.out;have := HLEN.out;unfold maxLen;omega)
  have HM2 : Hid ((l.length + 1) * 32 <= 140737488355328) := hZ0 (by have := HN8.out;have := HLEN.out;omega)
  have hn8 := HN8.out
  go_wp2_with (at_builtin;refine list_append_src elemPairM (.tmp 138) (.tmp 140) rfl rfl (Value.slice A l.length cc) rfl (own_kept HR9.out.1 (F := NoF) (by (repeat' (first | (with_reducible first | exact kR0 | apply kP0 | apply kN0 | apply kD0 | apply kA0) | (right;simp;done)))) (fun _ _ x => x)) 1 rfl (Src.of_has (t := 84) (size := 2) (m := 1) (cs := #[.string k1,.string v1]) (by (repeat (first | with_reducible exact Has.new_at _ _ _ (by simp) | with_reducible apply Has.drew | with_reducible apply Has.drewN | with_reducible apply Has.alloc | (with_reducible apply Has.past <;> (try omega)) ))) rfl) (by intro u hu;simp at hu;rcases hu with rfl | rfl <;> rfl) HM1.out HM2.out ?_;intro A6 c6 w10 ho6 hg6 ha6;obtain ⟨h6,hs6⟩ := push82 (z := ⟨k1,v1⟩) HO.out HD9.out HR9.out (by (repeat' (first | (with_reducible first | exact kR0 | apply kP0 | apply kN0 | apply kD0 | apply kA0) | (right;simp;done)))) ho6 hg6 ha6;have c6' : w10.cell? ⟨l8,21,none⟩ = some (.slice A l.length cc) := h6.cell 21;have f6' := h6.frozen 21;have HS6 := hZ0 hs6;clear ho6 hg6 ha6 h6 hs6)
  go_roundw
  case rel => exact ⟨i + 1,A6,c6,by omega,by go_num,(fun e => absurd e (by omega)),by rw [HNX.out];simpa using HS6.out.2,by rw [HNX.out];exact HS6.out.1⟩
  case measure => simp [intOf];omega
end
end Rm
end Go.Proofs.YtgbigpdiacjbgaaGreat

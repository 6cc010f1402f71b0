/- Part 23 of what the proof needs. -/
import Derived.Test.YtobfdolhgnoedaaAP14
import Derived.Test.YtobfdolhgnoedaaAP20
import Derived.Test.YtobfdolhgnoedaaAP21
set_option linter.unusedSimpArgs false
set_option linter.unusedVariables false
set_option maxHeartbeats 32000000
set_option maxRecDepth 100000
namespace Go.Proofs.Ytobfdolhgnoedaa
open Go.RowKit
set_option maxRecDepth 100000
namespace Ask
open Plan Ops Ent Msg MO Vn
attribute [local go_sem ↓] storeVar_msg loadVar_msg
def rowsT (t : TS) (x : MsgR) : TS × Bool := if x.at' ≠ t.at' \/ x.key ≠ t.key then (t,false) else if t.a.k ≠ 2 then (endT t ⟨0,0,t.at',0,x.ps.take 1⟩,false) else pageT t x
theorem takeR_rows {t : TS} {x : MsgR} (h : x.k = 10) : takeR t x = rowsT t x := by
 unfold takeR rowsT
 rw [if_neg (by omega)]
 by_cases h2 : x.at' ≠ t.at' \/ x.key ≠ t.key
 ·rw [if_pos (.inr h2),if_pos h2]
 ·rw [if_neg (fun e => h2 (e.resolve_left (fun z => z h))),if_neg h2]
section
variable {w w' : World} {X : DX} {t : TS} {G : Nat -> Prop}
theorem DAt.paged {w4 w6 : World} {A6 : Option Addr} {c6 : Nat} {L : List PairR} (h4 : DAt w4 X t) (hnd : t.dn = false) (ho : w6.ownsRow 0 68 2 (.slice A6 (t.ps.length + L.length) c6) (t.ps.length + L.length) (pcells t.ps ++ pcells L))
  (hk : Kept NoF w4 w6) (hn : ∀ k,(Value.slice A6 (t.ps.length + L.length) c6).ownBlock = some k -> w4.heap.size <= k) :
  DAt ((w6.setCell ⟨X.b,13,none⟩ (.slice A6 (t.ps.length + L.length) c6)).setCell ⟨X.b,14,none⟩ (.int .i64 0)) { X with pA := A6,pc := c6 } { t with ps := t.ps ++ L,waits := 0 } /\ Kept (fun k => k = X.b) w4 ((w6.setCell ⟨X.b,13,none⟩ (.slice A6 (t.ps.length + L.length) c6)).setCell ⟨X.b,14,none⟩ (.int .i64 0)) /\
   ∀ k,footD { X with pA := A6,pc := c6 } { t with ps := t.ps ++ L,waits := 0 } k -> footD X t k \/ w4.heap.size <= k := by
 have h6 := h4.quiet hk
 have hk6 : Kept (fun k => k = X.b) w6 ((w6.setCell ⟨X.b,13,none⟩ (.slice A6 (t.ps.length + L.length) c6)).setCell ⟨X.b,14,none⟩ (.int .i64 0)) := by (repeat' (first | (with_reducible first | exact kR0 | apply kP0 | apply kN0 | apply kD0 | apply kA0) | (exact .inl rfl) | (right;simp;done)))
 have hlen : (t.ps ++ L).length = t.ps.length + L.length := List.length_append
 have hnew : ∀ {e : TypeId} {size n : Nat} {v : Value} {xs : List Value},w6.ownsRow 0 e size v n xs -> e ≠ 62 -> ((w6.setCell ⟨X.b,13,none⟩ (.slice A6 (t.ps.length + L.length) c6)).setCell ⟨X.b,14,none⟩ (.int .i64 0)).ownsRow 0 e size v n xs := fun ho he => own_kept ho hk6 (fun k hk3 e2 => own_ne ho h6.b he (e2 ▸ hk3))
 refine ⟨⟨?_,hnew h6.bo (by decide),?_,hnew h6.r (by decide),h6.nd⟩,(hk.mono (fun _ z => z.elim)).then hk6,?_⟩
 ·have g1 := (h6.b.put 13 (.slice A6 (t.ps.length + L.length) c6)).put 14 (.int .i64 0)
  have e : (dcell { X with pA := A6,pc := c6 } { t with ps := t.ps ++ L,waits := 0 }).toArray = (((dcell X t).toArray.setIfInBounds 13 (.slice A6 (t.ps.length + L.length) c6)).setIfInBounds 14 (.int .i64 0)) := by
   unfold dcell
   dsimp only
   rw [hlen]
   rfl
  rw [e];exact g1
 ·show World.ownsRow _ 0 68 2 (.slice A6 (t.ps ++ L).length c6) (t.ps ++ L).length (pcells (t.ps ++ L))
  rw [hlen,pcells_app]
  exact hnew ho (by decide)
 ·intro k hk
  rcases hk with e | e | e | e
  ·exact .inl (.inl e)
  ·have e2 : (Value.slice A6 (t.ps ++ L).length c6).ownBlock = some k := e
   rw [hlen] at e2
   exact .inr (hn k e2)
  ·exact .inl (.inr (.inr (.inl e)))
  ·exact .inl (.inr (.inr (.inr e)))
theorem drows_any (h : DAt w X t) (hnd : t.dn = false) (hok : TOk t) (x : MsgR) (hx : PGood w (footD X t) x) :
  Calls Try.prog 40 #[.pointer (some ⟨X.b,0,none⟩),xagg x] w (DPost w X t (.bool (rowsT t x).2) (rowsT t x).1) := by
 obtain ⟨W0,hW0⟩ : ∃ W0,w.alloc (.cells (xcell x).toArray 34) = W0 := ⟨_,rfl⟩
 have hk0 : Kept NoF w W0 := by rw [<- hW0];(repeat' (first | (with_reducible first | exact kR0 | apply kP0 | apply kN0 | apply kD0 | apply kA0) | (right;simp;done)))
 have hn0 : Has W0 w.heap.size 34 (xcell x).toArray := by rw [<- hW0];exact Has.new _ _ _
 have h0 := h.quiet hk0
 have hb0 := h0.b
 have m4 : W0.cell? ⟨w.heap.size,4,none⟩ = some (.bool x.fl) := hn0.cell 4
 have m5 : W0.cell? ⟨w.heap.size,5,none⟩ = some (.int .u64 x.at') := hn0.cell 5
 have m11 : W0.cell? ⟨w.heap.size,11,none⟩ = some (.string x.key) := hn0.cell 11
 have m21 : W0.cell? ⟨w.heap.size,21,none⟩ = some (.slice x.pA x.ps.length x.pc) := hn0.cell 21
 have b3 : W0.cell? ⟨X.b,3,none⟩ = some (.int .i64 t.a.k) := hb0.cell 3
 have b11 : W0.cell? ⟨X.b,11,none⟩ = some (.int .u64 t.at') := hb0.cell 11
 have b12 : W0.cell? ⟨X.b,12,none⟩ = some (.string t.key) := hb0.cell 12
 have hcell : ∀ W,Kept (fun k => k = X.b) W0 W -> W.cell? ⟨w.heap.size,21,none⟩ = some (.slice x.pA x.ps.length x.pc) /\ W.cell? ⟨w.heap.size,4,none⟩ = some (.bool x.fl) := fun W hW => ⟨(hn0.kept hW (fun e => by have := h.b.lt;omega)).cell 21,(hn0.kept hW (fun e => by have := h.b.lt;omega)).cell 4⟩
 have hendA := fun W (hW : Kept NoF W0 W) => dend_any (h0.quiet hW)
 have hsrc := fun W (hW : Kept NoF W0 W) (k : Nat) (hk : k <= x.ps.length) => (hx.s.kept (hk0.then hW) (fun _ _ z => z)).take (k := k) hk
 have hfin : ∀ (r : RepR) A c W w7,Kept NoF W0 W -> DAt w7 { X with rA := A,rc := c } (endT t r) -> Kept (fun k => k = X.b) W w7 -> (∀ k,(Value.slice A r.ps.length c).ownBlock = some k -> w.heap.size <= k) -> ∀ w8,Kept NoF w7 w8 -> DPost w X t (.bool false) (endT t r) (.returned (.bool false)) w8 := fun r A c W w7 hW hp hk hA w8 hk8 =>
  ⟨rfl,_,hp.quiet hk8,rfl,fun k hk => footD_endr (w := w) (fun k hk => .inr (hA k hk)) hk,(((hk0.then hW).mono (fun _ z => z.elim)).then (hk.mono (fun k e => .inl e))).then (hk8.mono (fun _ z => z.elim))⟩
 have hxl := hx.l
 unfold maxLen at hxl
 have hlt0 := hn0.lt
 obtain ⟨bb,hbb⟩ : ∃ bb,X.b = bb := ⟨_,rfl⟩
 have hwb : bb < w.heap.size := by rw [<- hbb];exact h.b.lt
 have hlt1 : bb < W0.heap.size := by omega
 rw [hbb] at b3 b11 b12
 simp only [hbb] at hcell
 have hendB : ∀ W,Kept NoF W0 W -> ∀ (r : RepR) A c,W.ownsRow 0 68 2 (.slice A r.ps.length c) r.ps.length (pcells r.ps) -> Calls Try.prog 38 #[.pointer (some ⟨bb,0,none⟩),ragg r A c] W fun e w' => e = .returned (.tuple #[]) /\ DAt w' { X with rA := A,rc := c } (endT t r) /\ Kept (fun k => k = X.b) W w' := fun W hW r A c hr => by rw [<- hbb];exact hendA W hW r A c hr
 rw [hbb]
 obtain ⟨n,hn⟩ : ∃ n,x.ps.length = n := ⟨_,rfl⟩
 rw [hn] at m21 hxl
 simp only [hn] at hcell hsrc
 have HNE := hZ0 hn
 unfold xcell at hW0
 rw [hn] at hW0
 unfold xagg xcell
 rw [hn]
 have HENDA := hZ0 hendB;have HSRC := hZ0 hsrc;have HCELL := hZ0 hcell;have HFIN := hZ0 hfin;have HH := hZ0 h;have HK0 := hZ0 hk0;have HX := hZ0 hx;have HN0 := hZ0 hn0;have HH0 := hZ0 h0;have HBB := hZ0 hbb;have HWB := hZ0 hwb;have HND := hZ0 hnd;have HOK := hZ0 hok
 clear hendA hendB hsrc hcell hfin h hk0 hx hn0 h0 hb0 hn hbb hnd hok
 by_cases ha : x.at' = t.at'
 rotate_left
 ·have ba : (x.at' != t.at') = true := by simpa using ha
  have hr : rowsT t x = (t,false) := by unfold rowsT;rw [if_pos (.inl ha)]
  rw [hr]
  clear ha hr
  go_enter Try.func40,Try.ntmps40
  go_wp2
  go_quiet (fail)
  go_wp2
  go_ret
  exact DPost.same HH.out (by (repeat' (first | (with_reducible first | exact kR0 | apply kP0 | apply kN0 | apply kD0 | apply kA0) | (exact HK0.out) | (right;simp;done))))
 have ba : (x.at' != t.at') = false := by simpa using ha
 by_cases hk : x.key = t.key
 rotate_left
 ·have bk : (x.key.toList == t.key.toList) = false := by rw [tl_eq];exact decide_eq_false hk
  have hr : rowsT t x = (t,false) := by unfold rowsT;rw [if_pos (.inr hk)]
  rw [hr]
  clear ha hk hr
  go_enter Try.func40,Try.ntmps40
  go_wp2
  go_quiet (fail)
  go_wp2
  go_ret
  exact DPost.same HH.out (by (repeat' (first | (with_reducible first | exact kR0 | apply kP0 | apply kN0 | apply kD0 | apply kA0) | (exact HK0.out) | (right;simp;done))))
 have bk : (x.key.toList == t.key.toList) = true := by rw [tl_eq];exact decide_eq_true hk
 by_cases h2 : t.a.k = 2
 rotate_left
 ·have b2 : (t.a.k != 2) = true := by simpa using h2
  have hr : rowsT t x = (endT t ⟨0,0,t.at',0,x.ps.take 1⟩,false) := by unfold rowsT;rw [if_neg (by rintro (e | e);exact e ha;exact e hk),if_pos h2]
  rw [hr]
  clear ha hk h2 hr
  obtain ⟨m,hm⟩ : ∃ m,min n 1 = m := ⟨_,rfl⟩
  have hmn := run_min (n : Int) 1 (m : Int) (by omega)
  have hmle : m <= n := by omega
  have hmc : m <= x.pc := by omega
  have hml : (x.ps.take 1).length = m := by rw [List.length_take,HNE.out];omega
  have hsr : ∀ W,Kept NoF W0 W -> Src W 2 x.pA m (pcells (x.ps.take 1)) := fun W hW => by
   have s1 := HSRC.out W hW m hmle
   rw [pcells_take,show x.ps.take m = x.ps.take 1 by
    rcases Nat.eq_zero_or_pos n with e | e
    ·rw [List.eq_nil_of_length_eq_zero (HNE.out.trans e)];simp
    ·rw [show m = 1 by omega]] at s1
   exact s1
  have henda := fun W (hW : Kept NoF W0 W) A c => HENDA.out W hW ⟨0,0,t.at',0,x.ps.take 1⟩ A c
  have hfin := fun A c => HFIN.out ⟨0,0,t.at',0,x.ps.take 1⟩ A c
  obtain ⟨L1,hL1⟩ : ∃ L1,x.ps.take 1 = L1 := ⟨_,rfl⟩
  rw [hL1] at hml ⊢
  simp only [hL1] at hsr henda hfin
  unfold ragg rcell at henda
  dsimp only at henda
  simp only [hml] at henda hfin
  have HENDB := hZ0 henda;have HFINB := hZ0 hfin;have SR1 := hZ0 hsr
  clear henda hfin hL1 hsr
  have HM0 : Hid (0 + m <= maxLen) := hZ0 (by unfold maxLen;omega)
  have HY0 : Hid ((0 + m) * 32 <= 140737488355328) := hZ0 (by omega)
  have HSZ0 := hZ0 HK0.out.size
  have HML := hZ0 hml
  have ha21 : ∀ n' o,((W0.drewN n').alloc o).cell? ⟨w.heap.size,21,none⟩ = some (.slice x.pA n x.pc) := fun n' o => by rw [<- HNE.out];exact ((HN0.out.drewN n').alloc o).cell 21
  have ha11 : ∀ n' o,((W0.drewN n').alloc o).cell? ⟨bb,11,none⟩ = some (.int .u64 t.at') := fun n' o => by rw [<- HBB.out];exact ((HH0.out.b.drewN n').alloc o).cell 11
  clear hml hm
  go_enter Try.func40,Try.ntmps40
  go_wp2
  go_quiet (fail)
  go_wp2_with fail
  have y0 : (W0.drewN nq).cell? ⟨bb,11,none⟩ = some (.int .u64 t.at') /\ (W0.drewN nq).cell? ⟨w.heap.size,21,none⟩ = some (.slice x.pA n x.pc) := ⟨by rw [<- HBB.out];exact (HH0.out.b.drewN nq).cell 11,by rw [<- HNE.out];exact (HN0.out.drewN nq).cell 21⟩
  go_region_held3 (fun W => W.cell? ⟨bb,11,none⟩ = some (.int .u64 t.at') /\ W.cell? ⟨w.heap.size,21,none⟩ = some (.slice x.pA n x.pc))
   (first | with_reducible exact y7 | with_reducible exact ⟨y11,y5.1⟩ | with_reducible exact ⟨ha11 _ _,ha21 _ _⟩ | exact ⟨y11,y5.1⟩ | exact ⟨ha11 _ _,ha21 _ _⟩ | exact y0)
   (first
   | (with_reducible apply step_append_src elemPairA (.tmp 34) (.tmp 41) (n := 0) (xs := []) (A := x.pA) (m := m) (c := x.pc) (news := pcells L1)
      rfl
      rfl
      exact (rfl : _ = Value.slice (some ⟨_,0,none⟩) 0 0)
      (refine own_empty (cs := #[]) ?_ rfl;(repeat (first | with_reducible exact Has.new_at _ _ _ (by simp) | with_reducible apply Has.drew | with_reducible apply Has.drewN | with_reducible apply Has.alloc | (with_reducible apply Has.past <;> (try omega)) )))
      exact (rfl : _ = Value.slice x.pA m x.pc)
      (exact SR1.out _ (by (repeat' (first | (with_reducible first | exact kR0 | apply kP0 | apply kN0 | apply kD0 | apply kA0) | (right;simp;done)))))
      exact one_prs _
      exact HM0.out
      exact HY0.out
      intro A5 c5 w5 ho5 hg5 ha5
      have hk5 : Kept NoF W0 w5 := by refine Kept.grown ?_ hg5 ?_;(repeat' (first | (with_reducible first | exact kR0 | apply kP0 | apply kN0 | apply kD0 | apply kA0) | (right;simp;done)));exact fun k hk => .inr (new_row hk (by first | (simp;done) | (simp;omega) | omega))
      have hn5 : ∀ k,(Value.slice A5 (0 + m) c5).ownBlock = some k -> W0.heap.size <= k := (fun k hk => new_row2 hk ha5 (by first | (simp;done) | (simp;omega) | omega) (by first | (simp;done) | (simp;omega) | omega))
      have y5 := HCELL.out w5 (hk5.mono (fun _ z => z.elim))
      have y11 : w5.cell? ⟨bb,11,none⟩ = some (.int .u64 t.at') := HBB.out ▸ (HH0.out.quiet hk5).b.cell 11
      have HO5 := hZ0 (show w5.ownsRow 0 68 2 (.slice A5 m c5) m (pcells L1) from by simpa only [Nat.zero_add,List.nil_append] using ho5)
      have HN5 := hZ0 (show ∀ k,(Value.slice A5 m c5).ownBlock = some k -> W0.heap.size <= k from by simpa only [Nat.zero_add] using hn5)
      have HK5 := hZ0 hk5
      simp only [Nat.zero_add]
      clear ho5 hg5 ha5 hn5 hk5)
   | (go_at_call 38;refine (HENDB.out w5 HK5.out A5 c5 HO5.out).mono ?_;rintro e w7 ⟨rfl,hp7,hk7⟩;have y7 : w7.cell? ⟨bb,11,none⟩ = some (.int .u64 t.at') /\ w7.cell? ⟨w.heap.size,21,none⟩ = some (.slice x.pA n x.pc) := And.intro (HBB.out ▸ hp7.b.cell 11) (HCELL.out w7 (Kept.then (HK5.out.mono (fun _ z => z.elim)) (hk7.mono (fun k e => e.trans HBB.out)))).1;have HP7 := hZ0 hp7;have HK7 := hZ0 hk7;clear hp7 hk7))
  all_goals
   go_wp2
   go_ret
   exact HFINB.out A5 c5 _ _ HK5.out HP7.out HK7.out (fun k hk => Nat.le_trans HSZ0.out (HN5.out k hk)) _ (Kept.refl _ _)
 have b2 : (t.a.k != 2) = false := by simpa using h2
 have hr : rowsT t x = pageT t x := by unfold rowsT;rw [if_neg (by rintro (e | e);exact e ha;exact e hk),if_neg (fun e => e h2)]
 rw [hr]
 obtain ⟨hL,hL2,hs0,hLn⟩ := pageL_len HOK.out h2 x
 clear ha hk hr
 have hsz := fun W (hW : Kept NoF W0 W) => dsize_any (HH0.out.quiet hW) HOK.out
 obtain ⟨L,hLe⟩ : ∃ L,pageL t x = L := ⟨_,rfl⟩
 obtain ⟨sz,hsze⟩ : ∃ sz,sizeT t = sz := ⟨_,rfl⟩
 have hLt : L = x.ps.take L.length := by
  rw [<- hLe];unfold pageL
  rw [List.length_take]
  rcases Nat.le_total (sizeT t).toNat x.ps.length with e | e
  ·rw [Nat.min_eq_left e]
  ·rw [Nat.min_eq_right e,List.take_length,List.take_of_length_le e]
 rw [hLe] at hL hL2 hLn
 rw [hsze] at hL hs0
 simp only [hsze,HBB.out] at hsz
 obtain ⟨m,hm⟩ : ∃ m,L.length = m := ⟨_,rfl⟩
 rw [hm] at hL hL2 hLn hLt
 rw [HNE.out] at hL
 have hmn := run_min (n : Int) sz (m : Int) hL.symm
 have hmle : m <= n := by omega
 have hmc : m <= x.pc := Nat.le_trans hmle hxl.1
 have HLT := hZ0 hLt;have HSZ := hZ0 hsz;have HL2 := hZ0 (And.intro hL2 hLn);have HME := hZ0 hm;have HLE := hZ0 hLe;have HA2 := hZ0 h2
 have y0 := HCELL.out W0 (Kept.refl _ _)
 clear hL hL2 hs0 hLn hsz hLe hsze hLt hm h2 hxl
 go_enter Try.func40,Try.ntmps40
 go_wp2
 go_quiet (fail)
 go_wp2
 clear m4 m5 m11
 go_region_held3 (fun W => W.cell? ⟨w.heap.size,21,none⟩ = some (.slice x.pA n x.pc))
  (first | with_reducible exact y5.1 | with_reducible exact y0.1 | exact y0.1)
  (first | (go_at_call 33;refine (HSZ.out _ (by (repeat' (first | (with_reducible first | exact kR0 | apply kP0 | apply kN0 | apply kD0 | apply kA0) | (right;simp;done))))).mono ?_;rintro e w4 ⟨rfl,hk4⟩;have hk := Kept.then (F := NoF) (a := W0) (by (repeat' (first | (with_reducible first | exact kR0 | apply kP0 | apply kN0 | apply kD0 | apply kA0) | (right;simp;done)))) hk4;have y5 := HCELL.out w4 (hk.mono (fun _ z => z.elim));have HK4 := hZ0 hk;clear hk hk4))
 clear hW0 m21 hmn y5 y0 b3 b11 b12
 have hkw4 := HK0.out.then HK4.out
 have h4 := HH.out.quiet hkw4
 obtain ⟨q,hq⟩ : ∃ q,t.ps.length = q := ⟨_,rfl⟩
 have q13 : w4.cell? ⟨bb,13,none⟩ = some (.slice X.pA q X.pc) := by rw [<- HBB.out,<- hq];exact h4.b.cell 13
 have hown := h4.p
 rw [hq] at hown
 have hsrc : Src w4 2 x.pA m (pcells L) := by
  have s1 := HSRC.out w4 HK4.out m hmle
  rw [pcells_take,<- HLT.out] at s1
  exact s1
 have HB1 : Hid (0 + q <= maxLen) := hZ0 (by have := HOK.out.ps.1;unfold maxLen;omega)
 have HY1 : Hid ((0 + q) * 32 <= 140737488355328) := hZ0 (by have := HOK.out.ps.1;omega)
 have HB2 : Hid (q + m <= maxLen) := hZ0 (by have := HOK.out.ps.1;have := HL2.out.1;unfold maxLen;omega)
 have HY2 : Hid ((q + m) * 32 <= 140737488355328) := hZ0 (by have := HOK.out.ps.1;have := HL2.out.1;omega)
 have HQ := hZ0 hq;have H4 := hZ0 h4;have HSR := hZ0 hsrc;have HOW := hZ0 hown;have HKW := hZ0 hkw4
 have hlt4 : bb < w4.heap.size := by rw [<- HBB.out];exact H4.out.b.lt
 clear hq h4 hsrc hown hkw4
 by_cases hm0 : m = 0
 ·have hc0 : ¬ 0 < m := by omega
  have hc1 : ¬ (0 : Int) < (m : Int) := by omega
  have be0 : ((m : Int) == 0) = true := by simp [hm0]
  have HM0 := hZ0 hm0
  clear hm0
  go_wp2_with (first
   | (at_builtin;refine list_append_src elemPairA (.tmp 60) (.tmp 61) rfl rfl (Value.slice A5 q c5) rfl HO5.out.1 x.pc rfl (HSR.out.kept HO5.out.2.2 (fun _ _ z => z)) (one_prs L) HB2.out HY2.out ?_;intro A6 c6 w6 ho6 hg6 ha6;have hk6 : Kept NoF w4 w6 := HO5.out.2.2.grown hg6 (fun k hk => .inr (HO5.out.2.1 k hk));have hn6 : ∀ k,(Value.slice A6 (q + m) c6).ownBlock = some k -> w4.heap.size <= k := (fun k hk => by rcases ha6 with e | e;exact HO5.out.2.1 k (e.symm.trans hk);rw [hk] at e;injection e with e;have := HO5.out.2.2.size;omega);have hb6 := (H4.out.quiet hk6).b;have e13 : w6.cell? ⟨bb,13,none⟩ = some (.slice X.pA q X.pc) := (by rw [<- HBB.out,<- HQ.out];exact hb6.cell 13);have f13 : w6.frozen? ⟨bb,13,none⟩ = false := (by rw [<- HBB.out];exact hb6.frozen 13);have e14 : w6.cell? ⟨bb,14,none⟩ = some (.int .i64 t.waits) := (by rw [<- HBB.out];exact hb6.cell 14);have f14 : w6.frozen? ⟨bb,14,none⟩ = false := (by rw [<- HBB.out];exact hb6.frozen 14);have HO6 := hZ0 (And.intro ho6 (And.intro hk6 hn6));clear ho6 hg6 ha6 hk6 hn6 hb6)
   | (at_builtin;refine list_append_src elemPairA (.tmp 55) (.tmp 59) rfl rfl (Value.slice (some ⟨w4.heap.size,0,none⟩) 0 0) rfl (own_empty (Has.new w4 68 #[]) rfl) X.pc rfl ((Src.of_own HOW.out).kept (F := NoF) ((Kept.refl _ _).alloc _) (fun _ _ z => z)) (one_prs t.ps) HB1.out HY1.out ?_;intro A5 c5 w5 ho5 hg5 ha5;simp only [Nat.zero_add,List.nil_append] at ho5 ha5;have hk5 : Kept NoF w4 w5 := ((Kept.refl NoF w4).alloc _).grown hg5 (fun k hk => .inr (new_row hk (Nat.le_refl _)));have hn5 : ∀ k,(Value.slice A5 q c5).ownBlock = some k -> w4.heap.size <= k := (fun k hk => new_row2 hk ha5 (Nat.le_refl _) (by simp));have HO5 := hZ0 (And.intro ho5 (And.intro hn5 hk5));clear ho5 hg5 ha5 hk5 hn5))
  have hmid := DAt.paged (L := L) (w6 := w6) (A6 := A6) (c6 := c6) H4.out HND.out (by rw [HQ.out,HME.out];exact HO6.out.1) HO6.out.2.1 (by rw [HQ.out,HME.out];exact HO6.out.2.2)
  rw [HQ.out,HME.out,HBB.out] at hmid
  obtain ⟨W6,hW6⟩ : ∃ W6,((w6.setCell ⟨bb,13,none⟩ (.slice A6 (q + m) c6)).setCell ⟨bb,14,none⟩ (.int .i64 0)) = W6 := ⟨_,rfl⟩
  rw [hW6] at hmid
  have HW6 := hZ0 hW6
  obtain ⟨h6,hk46,hgrow⟩ := hmid
  have hg6 := h6.b
  have hlen : (t.ps ++ L).length = q + m := by rw [List.length_append,HQ.out,HME.out]
  have hbox := (HN0.out.kept HK4.out (fun z => z)).kept hk46 (fun hf => by have := HWB.out;have := HBB.out;omega)
  have u4 : W6.cell? ⟨w.heap.size,4,none⟩ = some (.bool x.fl) := hbox.cell 4
  have v3 : W6.cell? ⟨bb,3,none⟩ = some (.int .i64 t.a.k) := hg6.cell 3
  have v8 : W6.cell? ⟨bb,8,none⟩ = some (.int .i64 t.a.n) := hg6.cell 8
  have v11 : W6.cell? ⟨bb,11,none⟩ = some (.int .u64 t.at') := hg6.cell 11
  have v12 : W6.cell? ⟨bb,12,none⟩ = some (.string t.key) := hg6.cell 12
  have vf12 : W6.frozen? ⟨bb,12,none⟩ = false := hg6.frozen 12
  have v13 : W6.cell? ⟨bb,13,none⟩ = some (.slice A6 (q + m) c6) := by rw [<- hlen];exact hg6.cell 13
  have hgo : goesOn t x = (x.fl && (decide (0 < m) && (decide ((q + m : Nat) < t.a.n) && decide (nextKey L ≠ emp)))) := by unfold goesOn;rw [HLE.out,HME.out,HQ.out]
  have hF : goesOn t x = false -> pageT t x = (endT { t with ps := t.ps ++ L,waits := 0 } ⟨0,0,t.at',0,t.ps ++ L⟩,false) := fun e => by unfold pageT;rw [if_neg (by rw [e];decide),HLE.out]
  have hT : goesOn t x = true -> pageT t x = ({ t with ps := t.ps ++ L,waits := 0,key := nextKey L },true) := fun e => by unfold pageT;rw [if_pos e,HLE.out]
  have hend := fun W (hW : Kept NoF W6 W) => dend_any (h6.quiet hW) ⟨0,0,t.at',0,t.ps ++ L⟩ A6 c6 ((h6.quiet hW).p)
  unfold ragg rcell at hend
  dsimp only at hend
  simp only [hlen] at hend
  have hfin : ∀ W w7 (e : Ending),Kept NoF W6 W -> DAt w7 ⟨bb,X.bA,X.bc,A6,c6,A6,c6⟩ (endT { t with ps := t.ps ++ L,waits := 0 } ⟨0,0,t.at',0,t.ps ++ L⟩) -> Kept (fun k => k = bb) W w7 -> ∀ w8,Kept NoF w7 w8 -> goesOn t x = false -> DPost w X t (.bool (pageT t x).2) (pageT t x).1 (.returned (.bool false)) w8 := fun W w7 e hW hp hk w8 hk8 hgo2 => by
   rw [hF hgo2]
   refine ⟨rfl,_,hp.quiet hk8,HBB.out.symm,fun k hk => ?_,?_⟩
   ·have hk3 : footD ⟨bb,X.bA,X.bc,A6,c6,X.rA,X.rc⟩ { t with ps := t.ps ++ L,waits := 0 } k := by
     rcases hk with e | e | e | e
     ·exact .inl e
     ·exact .inr (.inl e)
     ·exact .inr (.inr (.inl e))
     ·exact .inr (.inl e)
    rcases hgrow k hk3 with e | e
    ·exact .inl e
    ·exact .inr (Nat.le_trans HKW.out.size e)
   ·exact (((HKW.out.mono (fun _ z => z.elim)).then (hk46.mono (fun k e => .inl (e.trans HBB.out.symm)))).then (hW.mono (fun _ z => z.elim))).then (hk.mono (fun k e => .inl (e.trans HBB.out.symm))) |>.then (hk8.mono (fun _ z => z.elim))
  have HEND := hZ0 hend;have HFIN2 := hZ0 hfin;have H6 := hZ0 h6;have HK46 := hZ0 hk46;have HGR := hZ0 hgrow;have HGO := hZ0 hgo;have HTT := hZ0 hT;have HLEN := hZ0 hlen
  clear hend hfin hgrow hgo hF hT h6 hlen hbox hg6 hk46 e13 f13 e14 f14 q13 hW6
  rw [HW6.out]
  cases hfl : x.fl with
  | false =>
   rw [hfl] at u4
   clear hfl
   go_quiet (fail)
   go_wp2_with fail
   go_region_held3 (fun W => W.cell? ⟨bb,11,none⟩ = some (.int .u64 t.at') /\ W.cell? ⟨bb,13,none⟩ = some (.slice A6 (q + m) c6))
    (first | with_reducible exact y7 | with_reducible exact ⟨v11,v13⟩ | exact ⟨v11,v13⟩)
    (first | (go_at_call 38;refine (HEND.out _ (by (repeat' (first | (with_reducible first | exact kR0 | apply kP0 | apply kN0 | apply kD0 | apply kA0) | (right;simp;done))))).mono ?_;rintro e w7 ⟨rfl,hp7,hk7⟩;have y7 : w7.cell? ⟨bb,11,none⟩ = some (.int .u64 t.at') /\ w7.cell? ⟨bb,13,none⟩ = some (.slice A6 (q + m) c6) := And.intro (hp7.b.cell 11) (HLEN.out ▸ hp7.b.cell 13);have HP7 := hZ0 hp7;have HK7 := hZ0 hk7;clear hp7 hk7))
   all_goals
    go_wp2
    go_ret
    exact HFIN2.out _ _ (.returned (.bool false)) (by (repeat' (first | (with_reducible first | exact kR0 | apply kP0 | apply kN0 | apply kD0 | apply kA0) | (right;simp;done)))) HP7.out HK7.out _ (Kept.refl _ _) (by rw [HGO.out,decide_eq_false (show ¬ 0 < m by have := HM0.out;omega)];simp)
  | true =>
   rw [hfl] at u4
   clear hfl
   go_quiet (fail)
   go_wp2_with fail
   go_region_held3 (fun W => W.cell? ⟨bb,11,none⟩ = some (.int .u64 t.at') /\ W.cell? ⟨bb,13,none⟩ = some (.slice A6 (q + m) c6))
    (first | with_reducible exact y7 | with_reducible exact ⟨v11,v13⟩ | exact ⟨v11,v13⟩)
    (first | (go_at_call 38;refine (HEND.out _ (by (repeat' (first | (with_reducible first | exact kR0 | apply kP0 | apply kN0 | apply kD0 | apply kA0) | (right;simp;done))))).mono ?_;rintro e w7 ⟨rfl,hp7,hk7⟩;have y7 : w7.cell? ⟨bb,11,none⟩ = some (.int .u64 t.at') /\ w7.cell? ⟨bb,13,none⟩ = some (.slice A6 (q + m) c6) := And.intro (hp7.b.cell 11) (HLEN.out ▸ hp7.b.cell 13);have HP7 := hZ0 hp7;have HK7 := hZ0 hk7;clear hp7 hk7))
   all_goals
    go_wp2
    go_ret
    exact HFIN2.out _ _ (.returned (.bool false)) (by (repeat' (first | (with_reducible first | exact kR0 | apply kP0 | apply kN0 | apply kD0 | apply kA0) | (right;simp;done)))) HP7.out HK7.out _ (Kept.refl _ _) (by rw [HGO.out,decide_eq_false (show ¬ 0 < m by have := HM0.out;omega)];simp)
 rcases (show m = 1 \/ m = 2 by have := HL2.out.1;omega) with rfl | rfl
 ·clear hm0
  obtain ⟨p,hp⟩ : ∃ p,L[0]? = some p := ⟨_,List.getElem?_eq_getElem (by rw [HME.out];decide)⟩
  have hnk : nextKey L = ofL (Keys.nextL (bl p.key)) := by unfold nextKey;rw [List.getLast?_eq_getElem?,HME.out];show (match L[0]? with | none => emp | some p => ofL (Keys.nextL (bl p.key))) = _;rw [hp]
  obtain ⟨ad,hade,had,-,-⟩ := pair_cells HSR.out (by decide) 0 p hp
  have hadn : ad.block ≠ bb := fun e3 => HX.out.off (by rw [HNE.out];omega) ad hade (.inl (e3.trans HBB.out.symm))
  have hcel : ∀ W,Kept (fun k => k = bb) w4 W -> W.cell? ad = some (.string p.key) := fun W hW => by
   obtain ⟨ad2,hade2,-,hc2,-⟩ := pair_cells (src_off HSR.out hW (fun _ ad e2 e3 => HX.out.off (by rw [HNE.out];omega) ad e2 (.inl (e3.trans HBB.out.symm)))) (by decide) 0 p hp
   rw [hade] at hade2
   injection hade2 with hade2
   subst hade2
   rw [show ad.add (0 * 2) = ad by unfold Addr.add;rfl] at hc2;exact hc2
  have hpk : p.key.size <= maxLen := HX.out.k p (by
   have h9 := List.mem_of_getElem? hp
   rw [HLT.out] at h9
   exact List.mem_of_mem_take h9)
  have hkn := fun W => Keys.rnext_any p.key W hpk
  have HKN := hZ0 hkn;have HNK := hZ0 hnk;have HCEL := hZ0 hcel
  clear hkn hnk had hpk hp hcel
  rw [hade] at HSR
  rw [hade]
  clear hade
  go_wp2_with (first
   | (at_builtin;refine list_append_src elemPairA (.tmp 60) (.tmp 61) rfl rfl (Value.slice A5 q c5) rfl HO5.out.1 x.pc rfl (HSR.out.kept HO5.out.2.2 (fun _ _ z => z)) (one_prs L) HB2.out HY2.out ?_;intro A6 c6 w6 ho6 hg6 ha6;have hk6 : Kept NoF w4 w6 := HO5.out.2.2.grown hg6 (fun k hk => .inr (HO5.out.2.1 k hk));have hn6 : ∀ k,(Value.slice A6 (q + 1) c6).ownBlock = some k -> w4.heap.size <= k := (fun k hk => by rcases ha6 with e | e;exact HO5.out.2.1 k (e.symm.trans hk);rw [hk] at e;injection e with e;have := HO5.out.2.2.size;omega);have hb6 := (H4.out.quiet hk6).b;have qp : ∀ u v,((w6.setCell ⟨bb,13,none⟩ u).setCell ⟨bb,14,none⟩ v).cell? ad = some (.string p.key) := (fun u v => HCEL.out _ ((hk6.mono (fun _ z => z.elim)).then (by (repeat' (first | (with_reducible first | exact kR0 | apply kP0 | apply kN0 | apply kD0 | apply kA0) | (exact .inl rfl) | (right;simp;done))))));have e13 : w6.cell? ⟨bb,13,none⟩ = some (.slice X.pA q X.pc) := (by rw [<- HBB.out,<- HQ.out];exact hb6.cell 13);have f13 : w6.frozen? ⟨bb,13,none⟩ = false := (by rw [<- HBB.out];exact hb6.frozen 13);have e14 : w6.cell? ⟨bb,14,none⟩ = some (.int .i64 t.waits) := (by rw [<- HBB.out];exact hb6.cell 14);have f14 : w6.frozen? ⟨bb,14,none⟩ = false := (by rw [<- HBB.out];exact hb6.frozen 14);have HO6 := hZ0 (And.intro ho6 (And.intro hk6 hn6));clear ho6 hg6 ha6 hk6 hn6 hb6)
   | (at_builtin;refine list_append_src elemPairA (.tmp 55) (.tmp 59) rfl rfl (Value.slice (some ⟨w4.heap.size,0,none⟩) 0 0) rfl (own_empty (Has.new w4 68 #[]) rfl) X.pc rfl ((Src.of_own HOW.out).kept (F := NoF) ((Kept.refl _ _).alloc _) (fun _ _ z => z)) (one_prs t.ps) HB1.out HY1.out ?_;intro A5 c5 w5 ho5 hg5 ha5;simp only [Nat.zero_add,List.nil_append] at ho5 ha5;have hk5 : Kept NoF w4 w5 := ((Kept.refl NoF w4).alloc _).grown hg5 (fun k hk => .inr (new_row hk (Nat.le_refl _)));have hn5 : ∀ k,(Value.slice A5 q c5).ownBlock = some k -> w4.heap.size <= k := (fun k hk => new_row2 hk ha5 (Nat.le_refl _) (by simp));have HO5 := hZ0 (And.intro ho5 (And.intro hn5 hk5));clear ho5 hg5 ha5 hk5 hn5))
  have hmid := DAt.paged (L := L) (w6 := w6) (A6 := A6) (c6 := c6) H4.out HND.out (by rw [HQ.out,HME.out];exact HO6.out.1) HO6.out.2.1 (by rw [HQ.out,HME.out];exact HO6.out.2.2)
  rw [HQ.out,HME.out,HBB.out] at hmid
  obtain ⟨W6,hW6⟩ : ∃ W6,((w6.setCell ⟨bb,13,none⟩ (.slice A6 (q + 1) c6)).setCell ⟨bb,14,none⟩ (.int .i64 0)) = W6 := ⟨_,rfl⟩
  rw [hW6] at hmid
  have HW6 := hZ0 hW6
  obtain ⟨h6,hk46,hgrow⟩ := hmid
  have hg6 := h6.b
  have hlen : (t.ps ++ L).length = q + 1 := by rw [List.length_append,HQ.out,HME.out]
  have hbox := (HN0.out.kept HK4.out (fun z => z)).kept hk46 (fun hf => by have := HWB.out;have := HBB.out;omega)
  have u4 : W6.cell? ⟨w.heap.size,4,none⟩ = some (.bool x.fl) := hbox.cell 4
  have v3 : W6.cell? ⟨bb,3,none⟩ = some (.int .i64 t.a.k) := hg6.cell 3
  have v8 : W6.cell? ⟨bb,8,none⟩ = some (.int .i64 t.a.n) := hg6.cell 8
  have v11 : W6.cell? ⟨bb,11,none⟩ = some (.int .u64 t.at') := hg6.cell 11
  have v12 : W6.cell? ⟨bb,12,none⟩ = some (.string t.key) := hg6.cell 12
  have vf12 : W6.frozen? ⟨bb,12,none⟩ = false := hg6.frozen 12
  have v13 : W6.cell? ⟨bb,13,none⟩ = some (.slice A6 (q + 1) c6) := by rw [<- hlen];exact hg6.cell 13
  have hgo : goesOn t x = (x.fl && (decide (0 < 1) && (decide ((q + 1 : Nat) < t.a.n) && decide (nextKey L ≠ emp)))) := by unfold goesOn;rw [HLE.out,HME.out,HQ.out]
  have hF : goesOn t x = false -> pageT t x = (endT { t with ps := t.ps ++ L,waits := 0 } ⟨0,0,t.at',0,t.ps ++ L⟩,false) := fun e => by unfold pageT;rw [if_neg (by rw [e];decide),HLE.out]
  have hT : goesOn t x = true -> pageT t x = ({ t with ps := t.ps ++ L,waits := 0,key := nextKey L },true) := fun e => by unfold pageT;rw [if_pos e,HLE.out]
  have hend := fun W (hW : Kept NoF W6 W) => dend_any (h6.quiet hW) ⟨0,0,t.at',0,t.ps ++ L⟩ A6 c6 ((h6.quiet hW).p)
  unfold ragg rcell at hend
  dsimp only at hend
  simp only [hlen] at hend
  have hfin : ∀ W w7 (e : Ending),Kept NoF W6 W -> DAt w7 ⟨bb,X.bA,X.bc,A6,c6,A6,c6⟩ (endT { t with ps := t.ps ++ L,waits := 0 } ⟨0,0,t.at',0,t.ps ++ L⟩) -> Kept (fun k => k = bb) W w7 -> ∀ w8,Kept NoF w7 w8 -> goesOn t x = false -> DPost w X t (.bool (pageT t x).2) (pageT t x).1 (.returned (.bool false)) w8 := fun W w7 e hW hp hk w8 hk8 hgo2 => by
   rw [hF hgo2]
   refine ⟨rfl,_,hp.quiet hk8,HBB.out.symm,fun k hk => ?_,?_⟩
   ·have hk3 : footD ⟨bb,X.bA,X.bc,A6,c6,X.rA,X.rc⟩ { t with ps := t.ps ++ L,waits := 0 } k := by
     rcases hk with e | e | e | e
     ·exact .inl e
     ·exact .inr (.inl e)
     ·exact .inr (.inr (.inl e))
     ·exact .inr (.inl e)
    rcases hgrow k hk3 with e | e
    ·exact .inl e
    ·exact .inr (Nat.le_trans HKW.out.size e)
   ·exact (((HKW.out.mono (fun _ z => z.elim)).then (hk46.mono (fun k e => .inl (e.trans HBB.out.symm)))).then (hW.mono (fun _ z => z.elim))).then (hk.mono (fun k e => .inl (e.trans HBB.out.symm))) |>.then (hk8.mono (fun _ z => z.elim))
  have HEND := hZ0 hend;have HFIN2 := hZ0 hfin;have H6 := hZ0 h6;have HK46 := hZ0 hk46;have HGR := hZ0 hgrow;have HGO := hZ0 hgo;have HTT := hZ0 hT;have HLEN := hZ0 hlen
  clear hend hfin hgrow hgo hF hT h6 hlen hbox hg6 hk46 e13 f13 e14 f14 q13 hW6
  rw [HW6.out]
  refine (HKN.out _).mono ?_
  rintro e w7 ⟨s',rfl,hs',hb7⟩
  have hk7 : Kept NoF W6 w7 := ⟨hb7.os,hb7.tape,hb7.output,hb7.size,fun k hk _ => hb7.block k hk⟩
  have hse : s' = nextKey L := by rw [HNK.out];exact bl_inj (by rw [bl_ofL];exact hs')
  have h7 := H6.out.quiet hk7
  have w8 : w7.cell? ⟨bb,8,none⟩ = some (.int .i64 t.a.n) := h7.b.cell 8
  have w11 : w7.cell? ⟨bb,11,none⟩ = some (.int .u64 t.at') := h7.b.cell 11
  have w12 : w7.cell? ⟨bb,12,none⟩ = some (.string t.key) := h7.b.cell 12
  have w13 : w7.cell? ⟨bb,13,none⟩ = some (.slice A6 (q + 1) c6) := by rw [<- HLEN.out];exact h7.b.cell 13
  have wf12 : w7.frozen? ⟨bb,12,none⟩ = false := h7.b.frozen 12
  have z4 : w7.cell? ⟨w.heap.size,4,none⟩ = some (.bool x.fl) := ((HN0.out.kept HK4.out (fun z => z)).kept (HK46.out.then (hk7.mono (fun _ z => z.elim))) (fun hf => by have := HWB.out;have := HBB.out;omega)).cell 4
  have HK7W := hZ0 hk7;have HSE := hZ0 hse
  clear hb7 hk7 hs' hse v3 v8 v11 v12 v13 vf12 u4 qp h7
  cases hfl : x.fl with
  | false =>
   rw [hfl] at z4
   have HFL := hZ0 hfl
   clear hfl
   go_wp2_with fail
   go_quiet (fail)
   go_wp2_with fail
   go_region_held3 (fun W => W.cell? ⟨bb,11,none⟩ = some (.int .u64 t.at') /\ W.cell? ⟨bb,13,none⟩ = some (.slice A6 (q + 1) c6))
    (first | with_reducible exact y7 | with_reducible exact ⟨w11,w13⟩ | exact ⟨w11,w13⟩)
    (first | (go_at_call 38;refine (HEND.out _ (by (repeat' (first | (with_reducible first | exact kR0 | apply kP0 | apply kN0 | apply kD0 | apply kA0) | (exact HK7W.out) | (right;simp;done))))).mono ?_;rintro e w7 ⟨rfl,hp7,hk7⟩;have y7 : w7.cell? ⟨bb,11,none⟩ = some (.int .u64 t.at') /\ w7.cell? ⟨bb,13,none⟩ = some (.slice A6 (q + 1) c6) := And.intro (hp7.b.cell 11) (HLEN.out ▸ hp7.b.cell 13);have HP7 := hZ0 hp7;have HK7 := hZ0 hk7;clear hp7 hk7))
   all_goals
    go_wp2
    go_ret
    exact HFIN2.out _ _ (.returned (.bool false)) (by (repeat' (first | (with_reducible first | exact kR0 | apply kP0 | apply kN0 | apply kD0 | apply kA0) | (exact HK7W.out) | (right;simp;done)))) HP7.out HK7.out _ (Kept.refl _ _) (by rw [HGO.out,HFL.out];simp)
  | true =>
   rw [hfl] at z4
   have HFL := hZ0 hfl
   clear hfl
   by_cases hqn : ((q + 1 : Nat) : Int) < t.a.n
   rotate_left
   ·have HQN := hZ0 hqn
    have hge : t.a.n <= (q : Int) + 1 := by omega
    clear hqn
    go_wp2_with fail
    go_quiet (fail)
    go_wp2_with fail
    go_region_held3 (fun W => W.cell? ⟨bb,11,none⟩ = some (.int .u64 t.at') /\ W.cell? ⟨bb,13,none⟩ = some (.slice A6 (q + 1) c6))
     (first | with_reducible exact y7 | with_reducible exact ⟨w11,w13⟩ | exact ⟨w11,w13⟩)
     (first | (go_at_call 38;refine (HEND.out _ (by (repeat' (first | (with_reducible first | exact kR0 | apply kP0 | apply kN0 | apply kD0 | apply kA0) | (exact HK7W.out) | (right;simp;done))))).mono ?_;rintro e w7 ⟨rfl,hp7,hk7⟩;have y7 : w7.cell? ⟨bb,11,none⟩ = some (.int .u64 t.at') /\ w7.cell? ⟨bb,13,none⟩ = some (.slice A6 (q + 1) c6) := And.intro (hp7.b.cell 11) (HLEN.out ▸ hp7.b.cell 13);have HP7 := hZ0 hp7;have HK7 := hZ0 hk7;clear hp7 hk7))
    all_goals
     go_wp2
     go_ret
     exact HFIN2.out _ _ (.returned (.bool false)) (by (repeat' (first | (with_reducible first | exact kR0 | apply kP0 | apply kN0 | apply kD0 | apply kA0) | (exact HK7W.out) | (right;simp;done)))) HP7.out HK7.out _ (Kept.refl _ _) (by rw [HGO.out,decide_eq_false (show ¬ (((q + 1 : Nat) : Int) < t.a.n) by have := HQN.out;omega)];simp)
   have HQN := hZ0 hqn
   have hge : ¬ t.a.n <= (q : Int) + 1 := by omega
   clear hqn
   by_cases hs0 : s' = emp
   ·have hsb : (s'.toList == (⟨#[]⟩ : ByteArray).toList) = true := by rw [tl_eq];exact decide_eq_true hs0
    have hsb2 : s'.toList.isEmpty = true := by rw [hs0];unfold emp;simp
    have HS0 := hZ0 hs0
    clear hs0
    go_wp2_with fail
    go_quiet (fail)
    go_wp2_with fail
    go_region_held3 (fun W => W.cell? ⟨bb,11,none⟩ = some (.int .u64 t.at') /\ W.cell? ⟨bb,13,none⟩ = some (.slice A6 (q + 1) c6))
     (first | with_reducible exact y7 | with_reducible exact ⟨w11,w13⟩ | exact ⟨w11,w13⟩)
     (first | (go_at_call 38;refine (HEND.out _ (by (repeat' (first | (with_reducible first | exact kR0 | apply kP0 | apply kN0 | apply kD0 | apply kA0) | (exact HK7W.out) | (right;simp;done))))).mono ?_;rintro e w7 ⟨rfl,hp7,hk7⟩;have y7 : w7.cell? ⟨bb,11,none⟩ = some (.int .u64 t.at') /\ w7.cell? ⟨bb,13,none⟩ = some (.slice A6 (q + 1) c6) := And.intro (hp7.b.cell 11) (HLEN.out ▸ hp7.b.cell 13);have HP7 := hZ0 hp7;have HK7 := hZ0 hk7;clear hp7 hk7))
    all_goals
     go_wp2
     go_ret
     exact HFIN2.out _ _ (.returned (.bool false)) (by (repeat' (first | (with_reducible first | exact kR0 | apply kP0 | apply kN0 | apply kD0 | apply kA0) | (exact HK7W.out) | (right;simp;done)))) HP7.out HK7.out _ (Kept.refl _ _) (by rw [HGO.out,decide_eq_false (show ¬ nextKey L ≠ emp from fun e => e (HSE.out.symm.trans HS0.out))];simp)
   ·have hsb : (s'.toList == (⟨#[]⟩ : ByteArray).toList) = false := by rw [tl_eq];exact decide_eq_false hs0
    have hsb2 : s'.toList.isEmpty = false := by
     rw [<- Bool.not_eq_true,List.isEmpty_iff]
     intro e
     apply hs0
     have h9 : (s'.toList == emp.toList) = true := by rw [e];unfold emp;simp
     rw [tl_eq] at h9
     exact of_decide_eq_true h9
    have HS0 := hZ0 hs0
    clear hs0
    go_wp2_with fail
    go_quiet (fail)
    go_wp2
    go_ret
    have hgoT : goesOn t x = true := by
     rw [HGO.out,HFL.out,decide_eq_true HQN.out,decide_eq_true (show 0 < 1 by decide),decide_eq_true (show nextKey L ≠ emp from fun e => HS0.out (HSE.out.trans e))]
     rfl
    rw [HTT.out hgoT,<- HSE.out]
    obtain ⟨W9,hW9⟩ : ∃ W9,w7.drewN nq = W9 := ⟨_,rfl⟩
    have hk9 : Kept NoF w7 W9 := by rw [<- hW9];(repeat' (first | (with_reducible first | exact kR0 | apply kP0 | apply kN0 | apply kD0 | apply kA0) | (right;simp;done)))
    rw [hW9]
    have h9 := H6.out.quiet (HK7W.out.then hk9)
    have hk8 : Kept (fun k => k = bb) W9 (W9.setCell ⟨bb,12,none⟩ (.string s')) := by (repeat' (first | (with_reducible first | exact kR0 | apply kP0 | apply kN0 | apply kD0 | apply kA0) | (exact .inl rfl) | (right;simp;done)))
    have hg8 := h9.b.put 12 (.string s')
    refine ⟨rfl,⟨bb,X.bA,X.bc,A6,c6,X.rA,X.rc⟩,h9.upd hk8 hg8 rfl rfl rfl rfl,HBB.out.symm,fun k hk => ?_,?_⟩
    ·rcases HGR.out k hk with e | e
     ·exact .inl e
     ·exact .inr (Nat.le_trans HKW.out.size e)
    ·exact (((HKW.out.mono (fun _ z => z.elim)).then (HK46.out.mono (fun k e => .inl (e.trans HBB.out.symm)))).then ((HK7W.out.then hk9).mono (fun _ z => z.elim))).then (hk8.mono (fun k e => .inl (e.trans HBB.out.symm)))
 ·clear hm0
  obtain ⟨p,hp⟩ : ∃ p,L[1]? = some p := ⟨_,List.getElem?_eq_getElem (by rw [HME.out];decide)⟩
  have hnk : nextKey L = ofL (Keys.nextL (bl p.key)) := by unfold nextKey;rw [List.getLast?_eq_getElem?,HME.out];show (match L[1]? with | none => emp | some p => ofL (Keys.nextL (bl p.key))) = _;rw [hp]
  obtain ⟨ad,hade,had,-,-⟩ := pair_cells HSR.out (by decide) 1 p hp
  have hadn : ad.block ≠ bb := fun e3 => HX.out.off (by rw [HNE.out];omega) ad hade (.inl (e3.trans HBB.out.symm))
  have hcel : ∀ W,Kept (fun k => k = bb) w4 W -> W.cell? ⟨ad.block,ad.off + 2,none⟩ = some (.string p.key) := fun W hW => by
   obtain ⟨ad2,hade2,-,hc2,-⟩ := pair_cells (src_off HSR.out hW (fun _ ad e2 e3 => HX.out.off (by rw [HNE.out];omega) ad e2 (.inl (e3.trans HBB.out.symm)))) (by decide) 1 p hp
   rw [hade] at hade2
   injection hade2 with hade2
   subst hade2
   rw [add_lit _ (by decide)] at hc2;exact hc2
  have hpk : p.key.size <= maxLen := HX.out.k p (by
   have h9 := List.mem_of_getElem? hp
   rw [HLT.out] at h9
   exact List.mem_of_mem_take h9)
  have hkn := fun W => Keys.rnext_any p.key W hpk
  have HKN := hZ0 hkn;have HNK := hZ0 hnk;have HCEL := hZ0 hcel
  clear hkn hnk had hpk hp hcel
  rw [hade] at HSR
  rw [hade]
  clear hade
  go_wp2_with (first
   | (at_builtin;refine list_append_src elemPairA (.tmp 60) (.tmp 61) rfl rfl (Value.slice A5 q c5) rfl HO5.out.1 x.pc rfl (HSR.out.kept HO5.out.2.2 (fun _ _ z => z)) (one_prs L) HB2.out HY2.out ?_;intro A6 c6 w6 ho6 hg6 ha6;have hk6 : Kept NoF w4 w6 := HO5.out.2.2.grown hg6 (fun k hk => .inr (HO5.out.2.1 k hk));have hn6 : ∀ k,(Value.slice A6 (q + 2) c6).ownBlock = some k -> w4.heap.size <= k := (fun k hk => by rcases ha6 with e | e;exact HO5.out.2.1 k (e.symm.trans hk);rw [hk] at e;injection e with e;have := HO5.out.2.2.size;omega);have hb6 := (H4.out.quiet hk6).b;have qp : ∀ u v,((w6.setCell ⟨bb,13,none⟩ u).setCell ⟨bb,14,none⟩ v).cell? ⟨ad.block,ad.off + 2,none⟩ = some (.string p.key) := (fun u v => HCEL.out _ ((hk6.mono (fun _ z => z.elim)).then (by (repeat' (first | (with_reducible first | exact kR0 | apply kP0 | apply kN0 | apply kD0 | apply kA0) | (exact .inl rfl) | (right;simp;done))))));have e13 : w6.cell? ⟨bb,13,none⟩ = some (.slice X.pA q X.pc) := (by rw [<- HBB.out,<- HQ.out];exact hb6.cell 13);have f13 : w6.frozen? ⟨bb,13,none⟩ = false := (by rw [<- HBB.out];exact hb6.frozen 13);have e14 : w6.cell? ⟨bb,14,none⟩ = some (.int .i64 t.waits) := (by rw [<- HBB.out];exact hb6.cell 14);have f14 : w6.frozen? ⟨bb,14,none⟩ = false := (by rw [<- HBB.out];exact hb6.frozen 14);have HO6 := hZ0 (And.intro ho6 (And.intro hk6 hn6));clear ho6 hg6 ha6 hk6 hn6 hb6)
   | (at_builtin;refine list_append_src elemPairA (.tmp 55) (.tmp 59) rfl rfl (Value.slice (some ⟨w4.heap.size,0,none⟩) 0 0) rfl (own_empty (Has.new w4 68 #[]) rfl) X.pc rfl ((Src.of_own HOW.out).kept (F := NoF) ((Kept.refl _ _).alloc _) (fun _ _ z => z)) (one_prs t.ps) HB1.out HY1.out ?_;intro A5 c5 w5 ho5 hg5 ha5;simp only [Nat.zero_add,List.nil_append] at ho5 ha5;have hk5 : Kept NoF w4 w5 := ((Kept.refl NoF w4).alloc _).grown hg5 (fun k hk => .inr (new_row hk (Nat.le_refl _)));have hn5 : ∀ k,(Value.slice A5 q c5).ownBlock = some k -> w4.heap.size <= k := (fun k hk => new_row2 hk ha5 (Nat.le_refl _) (by simp));have HO5 := hZ0 (And.intro ho5 (And.intro hn5 hk5));clear ho5 hg5 ha5 hk5 hn5))
  have hmid := DAt.paged (L := L) (w6 := w6) (A6 := A6) (c6 := c6) H4.out HND.out (by rw [HQ.out,HME.out];exact HO6.out.1) HO6.out.2.1 (by rw [HQ.out,HME.out];exact HO6.out.2.2)
  rw [HQ.out,HME.out,HBB.out] at hmid
  obtain ⟨W6,hW6⟩ : ∃ W6,((w6.setCell ⟨bb,13,none⟩ (.slice A6 (q + 2) c6)).setCell ⟨bb,14,none⟩ (.int .i64 0)) = W6 := ⟨_,rfl⟩
  rw [hW6] at hmid
  have HW6 := hZ0 hW6
  obtain ⟨h6,hk46,hgrow⟩ := hmid
  have hg6 := h6.b
  have hlen : (t.ps ++ L).length = q + 2 := by rw [List.length_append,HQ.out,HME.out]
  have hbox := (HN0.out.kept HK4.out (fun z => z)).kept hk46 (fun hf => by have := HWB.out;have := HBB.out;omega)
  have u4 : W6.cell? ⟨w.heap.size,4,none⟩ = some (.bool x.fl) := hbox.cell 4
  have v3 : W6.cell? ⟨bb,3,none⟩ = some (.int .i64 t.a.k) := hg6.cell 3
  have v8 : W6.cell? ⟨bb,8,none⟩ = some (.int .i64 t.a.n) := hg6.cell 8
  have v11 : W6.cell? ⟨bb,11,none⟩ = some (.int .u64 t.at') := hg6.cell 11
  have v12 : W6.cell? ⟨bb,12,none⟩ = some (.string t.key) := hg6.cell 12
  have vf12 : W6.frozen? ⟨bb,12,none⟩ = false := hg6.frozen 12
  have v13 : W6.cell? ⟨bb,13,none⟩ = some (.slice A6 (q + 2) c6) := by rw [<- hlen];exact hg6.cell 13
  have hgo : goesOn t x = (x.fl && (decide (0 < 2) && (decide ((q + 2 : Nat) < t.a.n) && decide (nextKey L ≠ emp)))) := by unfold goesOn;rw [HLE.out,HME.out,HQ.out]
  have hF : goesOn t x = false -> pageT t x = (endT { t with ps := t.ps ++ L,waits := 0 } ⟨0,0,t.at',0,t.ps ++ L⟩,false) := fun e => by unfold pageT;rw [if_neg (by rw [e];decide),HLE.out]
  have hT : goesOn t x = true -> pageT t x = ({ t with ps := t.ps ++ L,waits := 0,key := nextKey L },true) := fun e => by unfold pageT;rw [if_pos e,HLE.out]
  have hend := fun W (hW : Kept NoF W6 W) => dend_any (h6.quiet hW) ⟨0,0,t.at',0,t.ps ++ L⟩ A6 c6 ((h6.quiet hW).p)
  unfold ragg rcell at hend
  dsimp only at hend
  simp only [hlen] at hend
  have hfin : ∀ W w7 (e : Ending),Kept NoF W6 W -> DAt w7 ⟨bb,X.bA,X.bc,A6,c6,A6,c6⟩ (endT { t with ps := t.ps ++ L,waits := 0 } ⟨0,0,t.at',0,t.ps ++ L⟩) -> Kept (fun k => k = bb) W w7 -> ∀ w8,Kept NoF w7 w8 -> goesOn t x = false -> DPost w X t (.bool (pageT t x).2) (pageT t x).1 (.returned (.bool false)) w8 := fun W w7 e hW hp hk w8 hk8 hgo2 => by
   rw [hF hgo2]
   refine ⟨rfl,_,hp.quiet hk8,HBB.out.symm,fun k hk => ?_,?_⟩
   ·have hk3 : footD ⟨bb,X.bA,X.bc,A6,c6,X.rA,X.rc⟩ { t with ps := t.ps ++ L,waits := 0 } k := by
     rcases hk with e | e | e | e
     ·exact .inl e
     ·exact .inr (.inl e)
     ·exact .inr (.inr (.inl e))
     ·exact .inr (.inl e)
    rcases hgrow k hk3 with e | e
    ·exact .inl e
    ·exact .inr (Nat.le_trans HKW.out.size e)
   ·exact (((HKW.out.mono (fun _ z => z.elim)).then (hk46.mono (fun k e => .inl (e.trans HBB.out.symm)))).then (hW.mono (fun _ z => z.elim))).then (hk.mono (fun k e => .inl (e.trans HBB.out.symm))) |>.then (hk8.mono (fun _ z => z.elim))
  have HEND := hZ0 hend;have HFIN2 := hZ0 hfin;have H6 := hZ0 h6;have HK46 := hZ0 hk46;have HGR := hZ0 hgrow;have HGO := hZ0 hgo;have HTT := hZ0 hT;have HLEN := hZ0 hlen
  clear hend hfin hgrow hgo hF hT h6 hlen hbox hg6 hk46 e13 f13 e14 f14 q13 hW6
  rw [HW6.out]
  refine (HKN.out _).mono ?_
  rintro e w7 ⟨s',rfl,hs',hb7⟩
  have hk7 : Kept NoF W6 w7 := ⟨hb7.os,hb7.tape,hb7.output,hb7.size,fun k hk _ => hb7.block k hk⟩
  have hse : s' = nextKey L := by rw [HNK.out];exact bl_inj (by rw [bl_ofL];exact hs')
  have h7 := H6.out.quiet hk7
  have w8 : w7.cell? ⟨bb,8,none⟩ = some (.int .i64 t.a.n) := h7.b.cell 8
  have w11 : w7.cell? ⟨bb,11,none⟩ = some (.int .u64 t.at') := h7.b.cell 11
  have w12 : w7.cell? ⟨bb,12,none⟩ = some (.string t.key) := h7.b.cell 12
  have w13 : w7.cell? ⟨bb,13,none⟩ = some (.slice A6 (q + 2) c6) := by rw [<- HLEN.out];exact h7.b.cell 13
  have wf12 : w7.frozen? ⟨bb,12,none⟩ = false := h7.b.frozen 12
  have z4 : w7.cell? ⟨w.heap.size,4,none⟩ = some (.bool x.fl) := ((HN0.out.kept HK4.out (fun z => z)).kept (HK46.out.then (hk7.mono (fun _ z => z.elim))) (fun hf => by have := HWB.out;have := HBB.out;omega)).cell 4
  have HK7W := hZ0 hk7;have HSE := hZ0 hse
  clear hb7 hk7 hs' hse v3 v8 v11 v12 v13 vf12 u4 qp h7
  cases hfl : x.fl with
  | false =>
   rw [hfl] at z4
   have HFL := hZ0 hfl
   clear hfl
   go_wp2_with fail
   go_quiet (fail)
   go_wp2_with fail
   go_region_held3 (fun W => W.cell? ⟨bb,11,none⟩ = some (.int .u64 t.at') /\ W.cell? ⟨bb,13,none⟩ = some (.slice A6 (q + 2) c6))
    (first | with_reducible exact y7 | with_reducible exact ⟨w11,w13⟩ | exact ⟨w11,w13⟩)
    (first | (go_at_call 38;refine (HEND.out _ (by (repeat' (first | (with_reducible first | exact kR0 | apply kP0 | apply kN0 | apply kD0 | apply kA0) | (exact HK7W.out) | (right;simp;done))))).mono ?_;rintro e w7 ⟨rfl,hp7,hk7⟩;have y7 : w7.cell? ⟨bb,11,none⟩ = some (.int .u64 t.at') /\ w7.cell? ⟨bb,13,none⟩ = some (.slice A6 (q + 2) c6) := And.intro (hp7.b.cell 11) (HLEN.out ▸ hp7.b.cell 13);have HP7 := hZ0 hp7;have HK7 := hZ0 hk7;clear hp7 hk7))
   all_goals
    go_wp2
    go_ret
    exact HFIN2.out _ _ (.returned (.bool false)) (by (repeat' (first | (with_reducible first | exact kR0 | apply kP0 | apply kN0 | apply kD0 | apply kA0) | (exact HK7W.out) | (right;simp;done)))) HP7.out HK7.out _ (Kept.refl _ _) (by rw [HGO.out,HFL.out];simp)
  | true =>
   rw [hfl] at z4
   have HFL := hZ0 hfl
   clear hfl
   by_cases hqn : ((q + 2 : Nat) : Int) < t.a.n
   rotate_left
   ·have HQN := hZ0 hqn
    have hge : t.a.n <= (q : Int) + 2 := by omega
    clear hqn
    go_wp2_with fail
    go_quiet (fail)
    go_wp2_with fail
    go_region_held3 (fun W => W.cell? ⟨bb,11,none⟩ = some (.int .u64 t.at') /\ W.cell? ⟨bb,13,none⟩ = some (.slice A6 (q + 2) c6))
     (first | with_reducible exact y7 | with_reducible exact ⟨w11,w13⟩ | exact ⟨w11,w13⟩)
     (first | (go_at_call 38;refine (HEND.out _ (by (repeat' (first | (with_reducible first | exact kR0 | apply kP0 | apply kN0 | apply kD0 | apply kA0) | (exact HK7W.out) | (right;simp;done))))).mono ?_;rintro e w7 ⟨rfl,hp7,hk7⟩;have y7 : w7.cell? ⟨bb,11,none⟩ = some (.int .u64 t.at') /\ w7.cell? ⟨bb,13,none⟩ = some (.slice A6 (q + 2) c6) := And.intro (hp7.b.cell 11) (HLEN.out ▸ hp7.b.cell 13);have HP7 := hZ0 hp7;have HK7 := hZ0 hk7;clear hp7 hk7))
    all_goals
     go_wp2
     go_ret
     exact HFIN2.out _ _ (.returned (.bool false)) (by (repeat' (first | (with_reducible first | exact kR0 | apply kP0 | apply kN0 | apply kD0 | apply kA0) | (exact HK7W.out) | (right;simp;done)))) HP7.out HK7.out _ (Kept.refl _ _) (by rw [HGO.out,decide_eq_false (show ¬ (((q + 2 : Nat) : Int) < t.a.n) by have := HQN.out;omega)];simp)
   have HQN := hZ0 hqn
   have hge : ¬ t.a.n <= (q : Int) + 2 := by omega
   clear hqn
   by_cases hs0 : s' = emp
   ·have hsb : (s'.toList == (⟨#[]⟩ : ByteArray).toList) = true := by rw [tl_eq];exact decide_eq_true hs0
    have hsb2 : s'.toList.isEmpty = true := by rw [hs0];unfold emp;simp
    have HS0 := hZ0 hs0
    clear hs0
    go_wp2_with fail
    go_quiet (fail)
    go_wp2_with fail
    go_region_held3 (fun W => W.cell? ⟨bb,11,none⟩ = some (.int .u64 t.at') /\ W.cell? ⟨bb,13,none⟩ = some (.slice A6 (q + 2) c6))
     (first | with_reducible exact y7 | with_reducible exact ⟨w11,w13⟩ | exact ⟨w11,w13⟩)
     (first | (go_at_call 38;refine (HEND.out _ (by (repeat' (first | (with_reducible first | exact kR0 | apply kP0 | apply kN0 | apply kD0 | apply kA0) | (exact HK7W.out) | (right;simp;done))))).mono ?_;rintro e w7 ⟨rfl,hp7,hk7⟩;have y7 : w7.cell? ⟨bb,11,none⟩ = some (.int .u64 t.at') /\ w7.cell? ⟨bb,13,none⟩ = some (.slice A6 (q + 2) c6) := And.intro (hp7.b.cell 11) (HLEN.out ▸ hp7.b.cell 13);have HP7 := hZ0 hp7;have HK7 := hZ0 hk7;clear hp7 hk7))
    all_goals
     go_wp2
     go_ret
     exact HFIN2.out _ _ (.returned (.bool false)) (by (repeat' (first | (with_reducible first | exact kR0 | apply kP0 | apply kN0 | apply kD0 | apply kA0) | (exact HK7W.out) | (right;simp;done)))) HP7.out HK7.out _ (Kept.refl _ _) (by rw [HGO.out,decide_eq_false (show ¬ nextKey L ≠ emp from fun e => e (HSE.out.symm.trans HS0.out))];simp)
   ·have hsb : (s'.toList == (⟨#[]⟩ : ByteArray).toList) = false := by rw [tl_eq];exact decide_eq_false hs0
    have hsb2 : s'.toList.isEmpty = false := by
     rw [<- Bool.not_eq_true,List.isEmpty_iff]
     intro e
     apply hs0
     have h9 : (s'.toList == emp.toList) = true := by rw [e];unfold emp;simp
     rw [tl_eq] at h9
     exact of_decide_eq_true h9
    have HS0 := hZ0 hs0
    clear hs0
    go_wp2_with fail
    go_quiet (fail)
    go_wp2
    go_ret
    have hgoT : goesOn t x = true := by
     rw [HGO.out,HFL.out,decide_eq_true HQN.out,decide_eq_true (show 0 < 2 by decide),decide_eq_true (show nextKey L ≠ emp from fun e => HS0.out (HSE.out.trans e))]
     rfl
    rw [HTT.out hgoT,<- HSE.out]
    obtain ⟨W9,hW9⟩ : ∃ W9,w7.drewN nq = W9 := ⟨_,rfl⟩
    have hk9 : Kept NoF w7 W9 := by rw [<- hW9];(repeat' (first | (with_reducible first | exact kR0 | apply kP0 | apply kN0 | apply kD0 | apply kA0) | (right;simp;done)))
    rw [hW9]
    have h9 := H6.out.quiet (HK7W.out.then hk9)
    have hk8 : Kept (fun k => k = bb) W9 (W9.setCell ⟨bb,12,none⟩ (.string s')) := by (repeat' (first | (with_reducible first | exact kR0 | apply kP0 | apply kN0 | apply kD0 | apply kA0) | (exact .inl rfl) | (right;simp;done)))
    have hg8 := h9.b.put 12 (.string s')
    refine ⟨rfl,⟨bb,X.bA,X.bc,A6,c6,X.rA,X.rc⟩,h9.upd hk8 hg8 rfl rfl rfl rfl,HBB.out.symm,fun k hk => ?_,?_⟩
    ·rcases HGR.out k hk with e | e
     ·exact .inl e
     ·exact .inr (Nat.le_trans HKW.out.size e)
    ·exact (((HKW.out.mono (fun _ z => z.elim)).then (HK46.out.mono (fun k e => .inl (e.trans HBB.out.symm)))).then ((HK7W.out.then hk9).mono (fun _ z => z.elim))).then (hk8.mono (fun k e => .inl (e.trans HBB.out.symm)))
end
end Ask
end Go.Proofs.Ytobfdolhgnoedaa

/- Part 44 of what the proof needs. -/
import Derived.Test.YtolkgbafebehfaaGreatHP42
set_option linter.unusedSimpArgs false
set_option linter.unusedVariables false
set_option maxHeartbeats 32000000
set_option maxRecDepth 100000
namespace Go.Proofs.YtolkgbafebehfaaGreat
open Go.RowKit
set_option maxRecDepth 100000
namespace Mas
open Plan Vn Mst Wat IM Nte Msg
def nunpin (n : Int) : NoteR := nt 7 n ⟨0,0,0⟩ ⟨0,0,[]⟩
def renewG (l : List PinR) (id : Int) : List PinR := if pinAt l id < 0 then [] else renewed l id
def freeG (l : List PinR) (id : Int) : List PinR := if pinAt l id < 0 then [] else freed l id
def grantM (M : MR) (x : MsgR) : MR :=
 if x.k = 11 then pinM M x.at' else
 match (if pinAt M.st.pins x.n < 0 then none else M.st.pins[(pinAt M.st.pins x.n).toNat]?) with
 | none => M
 | some p => if x.k = 12 then { writeM M (npin p) with pins := renewG M.pins x.n } else { writeM M (nunpin x.n) with pins := freeG M.pins x.n }
def grantV (M : MR) (x : MsgR) : Int × Int := if x.k = 11 then pinV M x.at' else if pinAt M.st.pins x.n < 0 then (0,7) else (x.n,0)
section
variable {w w' : World} {X X0 : MX} {M M0 : MR} {c k : Nat}
theorem renewG_len (l : List PinR) (id : Int) : (renewG l id).length <= l.length := by
 unfold renewG
 split
 ·exact Nat.zero_le _
 ·rw [renewed_length];exact Nat.le_refl _
theorem freeG_mem {l : List PinR} {id : Int} {p : PinR} (h : p ∈ freeG l id) : p ∈ l := by
 unfold freeG at h
 split at h
 ·cases h
 ·unfold freed at h
  split at h
  ·exact h
  ·exact List.mem_of_mem_eraseIdx h
theorem freeG_len (l : List PinR) (id : Int) : (freeG l id).length <= l.length := by
 unfold freeG
 split
 ·exact Nat.zero_le _
 ·unfold freed
  split
  ·exact Nat.le_refl _
  ·rw [List.length_eraseIdx];split <;> omega
theorem renewG_any (w : World) (A : Option Addr) (c : Nat) (l : List PinR) (id : Int) (hl : Src w 3 A l.length (pcells l)) (hlc : l.length <= c) (hlen : l.length <= 1000000) :
  Calls Tryz.prog 231 #[.slice A l.length c,.int .i64 id] w fun e w' => ∃ A' c' z,e = .returned (.tuple #[.slice A' (renewG l id).length c',.int .i64 z]) /\ NewSl 79 3 w.heap.size w' A' (renewG l id).length c' (pcells (renewG l id)) /\ Kept NoF w w' := by
 refine (renew_any w A c l id hl hlc hlen).mono ?_
 rintro e w' (⟨h0,rfl,hk⟩ | ⟨h0,A',c',rfl,hn,hk⟩)
 ·have e1 : renewG l id = [] := if_pos h0
  rw [e1]
  exact ⟨none,0,_,rfl,NewSl.nil _ _ _ _,hk⟩
 ·have e1 : renewG l id = renewed l id := if_neg (by omega)
  rw [e1]
  exact ⟨A',c',_,rfl,hn,hk⟩
theorem freeG_any (w : World) (A : Option Addr) (c : Nat) (l : List PinR) (id : Int) (hl : Src w 3 A l.length (pcells l)) (hlen : l.length <= 1000000) :
  Calls Tryz.prog 136 #[.slice A l.length c,.int .i64 id] w fun e w' => ∃ A' c' z,e = .returned (.tuple #[.slice A' (freeG l id).length c',.int .i64 z]) /\ NewSl 79 3 w.heap.size w' A' (freeG l id).length c' (pcells (freeG l id)) /\ Kept NoF w w' := by
 refine (free_any w A c l id hl hlen).mono ?_
 rintro e w' (⟨h0,rfl,hk⟩ | ⟨h0,A',c',rfl,hn,hk⟩)
 ·have e1 : freeG l id = [] := if_pos h0
  rw [e1]
  exact ⟨none,0,_,rfl,NewSl.nil _ _ _ _,hk⟩
 ·have e1 : freeG l id = freed l id := if_neg (by omega)
  rw [e1]
  exact ⟨A',c',_,rfl,hn,hk⟩
theorem renewG_mem {l : List PinR} {id : Int} {p : PinR} (h : p ∈ renewG l id) : p ∈ l \/ ∃ q ∈ l,p = ⟨id,q.at',8⟩ := by
 unfold renewG at h
 split at h
 ·cases h
 ·exact renewed_mem h
theorem MOk.setP (h : MOk M k) {l : List PinR} (h3 : l.length <= 3) (hp : ∀ p ∈ l,0 <= p.left /\ p.left <= 8 /\ 0 <= p.at' /\ p.at' <= maxTs) : MOk { M with pins := l } k := ⟨h.st,h3,hp,h.wat,h.last,h.marks,h.serial,h.cnt⟩
theorem writeM_pins (M : MR) (x : NoteR) : (writeM M x).pins = M.pins := by unfold writeM;split <;> rfl
theorem MOk.grantM {w : World} (h : MOk M k) (x : MsgR) (hok : XOk w x) : MOk (Mas.grantM M x) k := by
 unfold Mas.grantM
 split
 ·exact h.pinM _ hok.t.1
 ·split
  ·exact h
  ·rename_i p hp
   have hpm : p ∈ M.st.pins := by
    split at hp
    ·cases hp
    ·exact List.mem_of_getElem? hp
   have hpi := h.st.inv.pin p hpm
   have hps := h.st.su.pin p hpm
   split
   ·refine (h.write (nu_nt 6 0 p hps (by omega))).setP (Nat.le_trans (renewG_len _ _) h.p3) (fun q hq => ?_)
    rcases renewG_mem hq with y | ⟨r,hr,rfl⟩
    ·exact h.pin q y
    ·have := h.pin r hr;exact ⟨by show (0:Int) <= 8;decide,by show (8:Int) <= 8;decide,this.2.2⟩
   ·exact (h.write (nu_nt 7 x.n ⟨0,0,0⟩ (by decide) (by decide))).setP (Nat.le_trans (freeG_len _ _) h.p3) (fun q hq => h.pin q (freeG_mem hq))
theorem grantM_out (M : MR) (x : MsgR) : (grantM M x).out = M.out := by
 unfold grantM
 split
 ·exact pinM_out _ _
 ·split
  ·rfl
  ·split <;> exact writeM_out _ _
theorem nunpin_off (F : Nat -> Prop) (n : Int) : NOff F (nunpin n) := ⟨fun h => absurd h (Nat.lt_irrefl _),fun h => absurd h (Nat.lt_irrefl _),fun h => absurd h (Nat.lt_irrefl _)⟩
theorem pwhose_any (w : World) (p : PinR) (b : Nat) (x : MsgR) (hb : Has w b 46 (xcell x).toArray) :
  Calls Tryz.prog 250 #[pagg p,.pointer (some ⟨b,0,none⟩)] w fun e w' => e = .returned (.bool (decide (p.id = x.n))) /\ Kept NoF w w' := by
 have c0 := (hb.alloc (.cells #[.int .i64 p.id,.int .u64 p.at',.int .i64 p.left] 79)).cell 7
 simp only [xcell,List.getElem?_toArray,List.getElem?_cons_zero,List.getElem?_cons_succ] at c0
 clear hb
 go_enter Tryz.func250,Tryz.ntmps250
 go_wp2
 go_ret
 exact ⟨rfl,by (repeat' (first | (with_reducible first | exact kR0 | apply kP0 | apply kN0 | apply kD0 | apply kA0) | (right;simp;done)))⟩
theorem grant_pin (h : MAt w X M) (hb : LgB X M.lg c) (hc : c <= 4000) (hm : MOk M k) (x : MsgR) (hx : XOk w x) (h11 : x.k = 11) :
  Calls Tryz.prog 144 #[.pointer (some ⟨X.mb,0,none⟩),xagg x] w (MPost w X M c (.tuple #[.int .i64 (grantV M x).1,.int .i64 (grantV M x).2]) (grantM M x) 1) := by
 have e1 : grantM M x = pinM M x.at' := if_pos h11
 have e2 : grantV M x = pinV M x.at' := if_pos h11
 rw [e1,e2]
 obtain ⟨W0,hW0⟩ : ∃ W0,w.alloc (.cells (xcell x).toArray 46) = W0 := ⟨_,rfl⟩
 have hk0 : Kept NoF w W0 := by rw [<- hW0];(repeat' (first | (with_reducible first | exact kR0 | apply kP0 | apply kN0 | apply kD0 | apply kA0) | (right;simp;done)))
 have hn0 : Has W0 w.heap.size 46 (xcell x).toArray := by rw [<- hW0];exact Has.new _ _ _
 have hoff : ¬ foot X M w.heap.size := fun hf => absurd (h.lt hf) (Nat.lt_irrefl _)
 have z0 : W0.cell? ⟨w.heap.size,0,none⟩ = some (.int .i64 x.k) := hn0.cell 0
 have z5 : W0.cell? ⟨w.heap.size,5,none⟩ = some (.int .u64 x.at') := hn0.cell 5
 have hp : Calls Tryz.prog 248 #[.pointer (some ⟨X.mb,0,none⟩),.int .u64 x.at'] W0 fun e w' => e = .returned (.tuple #[.int .i64 (pinV M x.at').1,.int .i64 (pinV M x.at').2]) /\ MPost w X M c (.tuple #[.int .i64 (pinV M x.at').1,.int .i64 (pinV M x.at').2]) (pinM M x.at') 1 (.returned (.tuple #[.int .i64 (pinV M x.at').1,.int .i64 (pinV M x.at').2])) w' := by
  refine (pin_any (h.quiet hk0) hb hc hm x.at' hx.t.1).mono ?_
  rintro e w' ⟨rfl,X',hs,hl⟩
  exact ⟨rfl,rfl,X',(Step.refl h hk0).trans hs,hl⟩
 rw [h11] at z0
 have HP := hZ0 hp
 clear hp e1 e2 h hb hc hm hx hn0 hk0 hoff
 obtain ⟨v1,hv1⟩ : ∃ v1,(pinV M x.at').1 = v1 := ⟨_,rfl⟩
 obtain ⟨v2,hv2⟩ : ∃ v2,(pinV M x.at').2 = v2 := ⟨_,rfl⟩
 rw [hv1,hv2] at HP ⊢
 clear hv1 hv2
 go_enter Tryz.func144,Tryz.ntmps144
 go_wp2_with fail
 clear z0 z5 hW0
 refine HP.out.mono ?_
 rintro e w2 ⟨rfl,hq⟩
 have HQ := hZ0 hq;clear hq HP
 go_wp2
 go_ret2
 exact HQ.out
theorem grant_none (h : MAt w X M) (hb : LgB X M.lg c) (hc : c <= 4000) (hm : MOk M k) (x : MsgR) (hx : XOk w x) (h11 : x.k ≠ 11) (h0 : pinAt M.st.pins x.n < 0) :
  Calls Tryz.prog 144 #[.pointer (some ⟨X.mb,0,none⟩),xagg x] w (MPost w X M c (.tuple #[.int .i64 (grantV M x).1,.int .i64 (grantV M x).2]) (grantM M x) 1) := by
 have e1 : grantM M x = M := by unfold grantM;rw [if_neg h11,if_pos h0]
 have e2 : grantV M x = (0,7) := by unfold grantV;rw [if_neg h11,if_pos h0]
 rw [e1,e2]
 obtain ⟨W0,hW0⟩ : ∃ W0,w.alloc (.cells (xcell x).toArray 46) = W0 := ⟨_,rfl⟩
 have hk0 : Kept NoF w W0 := by rw [<- hW0];(repeat' (first | (with_reducible first | exact kR0 | apply kP0 | apply kN0 | apply kD0 | apply kA0) | (right;simp;done)))
 have hn0 : Has W0 w.heap.size 46 (xcell x).toArray := by rw [<- hW0];exact Has.new _ _ _
 have hoff : ¬ foot X M w.heap.size := fun hf => absurd (h.lt hf) (Nat.lt_irrefl _)
 have z0 : W0.cell? ⟨w.heap.size,0,none⟩ = some (.int .i64 x.k) := hn0.cell 0
 have q2 : W0.cell? ⟨X.mb,2,none⟩ = some (.pointer (some ⟨X.sb,0,none⟩)) := (h.quiet hk0).cell (i := 2) rfl
 have hpi := pins_at ((h.quiet hk0).c 2) hm.st.inv.ok
 have hp3 := hm.st.inv.pl
 have hk11 : (x.k == 11) = false := by simpa using h11
 obtain ⟨st,hst⟩ : ∃ st,M.st.pins = st := ⟨_,rfl⟩
 obtain ⟨PA,hPA⟩ : ∃ PA,pinAt st x.n = PA := ⟨_,rfl⟩
 have hidx := fun W A d (hW : Kept NoF W0 W) (hs : Src W 3 A st.length (pcells st)) => idxPin_any W A d st 250 (.pointer (some ⟨w.heap.size,0,none⟩)) (fun y => decide (y.id = x.n)) (fun args W => enters Tryz.func250 (by kernel_rfl) rfl args W) hs (by rw [<- hst];omega) (fun W2 y hW2 _ => pwhose_any W2 y w.heap.size x ((hn0.kept hW (fun z => z)).kept hW2 (fun z => z)))
 have hPA' : idxW (fun y : PinR => decide (y.id = x.n)) st 0 = PA := hPA
 simp only [hPA'] at hidx
 have hpi2 : Calls Tryz.prog 55 #[.pointer (some ⟨X.sb,0,none⟩)] W0 (NewPin W0 st) := by rw [<- hst];exact hpi
 rw [hst,hPA] at h0
 have hfin : ∀ W,Kept NoF w W -> MPost w X M c (.tuple #[.int .i64 0,.int .i64 7]) M 1 (.returned (.tuple #[.int .i64 0,.int .i64 7])) W := fun W hW => ⟨rfl,X,Step.refl h hW,hb.mono (Nat.le_succ _)⟩
 have HF := hZ0 hfin;have HPI := hZ0 hpi2;have HI := hZ0 hidx;have HK0 := hZ0 hk0
 clear hfin hpi hpi2 hidx hk0 h hb hc hm hx hn0 hoff e1 e2 hst hPA hPA' hp3
 go_enter Tryz.func144,Tryz.ntmps144
 go_wp2_with fail
 clear z0 q2 hW0
 refine HPI.out.mono ?_
 rintro e w2 ⟨A,d,rfl,hn,hk⟩
 have hix := HI.out w2 A d hk (Src.of_own hn.1)
 have HIX := hZ0 hix;have HK2 := hZ0 (HK0.out.then hk);clear hix hn hk HPI
 go_wp2_with fail
 refine HIX.out.mono ?_
 rintro e w3 ⟨rfl,hk⟩
 have HF2 := hZ0 (HF.out _ (HK2.out.then hk));clear hk HIX
 go_wp2
 go_ret2
 exact HF2.out
theorem grant_renew (h : MAt w X M) (hb : LgB X M.lg c) (hc : c <= 4000) (hm : MOk M k) (x : MsgR) (hx : XOk w x) (h11 : x.k ≠ 11) (h12 : x.k = 12) (p : PinR) (kk : Nat) (h0 : pinAt M.st.pins x.n = (kk : Int)) (hp : M.st.pins[kk]? = some p) :
  Calls Tryz.prog 144 #[.pointer (some ⟨X.mb,0,none⟩),xagg x] w (MPost w X M c (.tuple #[.int .i64 (grantV M x).1,.int .i64 (grantV M x).2]) (grantM M x) 1) := by
 have hpm : p ∈ M.st.pins := List.mem_of_getElem? hp
 have hpp := hm.st.inv.pin p hpm
 have hps := hm.st.su.pin p hpm
 have e1 : grantM M x = { writeM M (npin p) with pins := renewG M.pins x.n } := by unfold grantM;rw [if_neg h11,if_neg (by omega),h0,Int.toNat_natCast,hp];dsimp only;rw [if_pos h12]
 have e2 : grantV M x = (x.n,0) := by unfold grantV;rw [if_neg h11,if_neg (by omega)]
 rw [e1,e2]
 obtain ⟨W0,hW0⟩ : ∃ W0,w.alloc (.cells (xcell x).toArray 46) = W0 := ⟨_,rfl⟩
 have hk0 : Kept NoF w W0 := by rw [<- hW0];(repeat' (first | (with_reducible first | exact kR0 | apply kP0 | apply kN0 | apply kD0 | apply kA0) | (right;simp;done)))
 have hn0 : Has W0 w.heap.size 46 (xcell x).toArray := by rw [<- hW0];exact Has.new _ _ _
 have hoff : ¬ foot X M w.heap.size := fun hf => absurd (h.lt hf) (Nat.lt_irrefl _)
 have z0 : W0.cell? ⟨w.heap.size,0,none⟩ = some (.int .i64 x.k) := hn0.cell 0
 have q2 : W0.cell? ⟨X.mb,2,none⟩ = some (.pointer (some ⟨X.sb,0,none⟩)) := (h.quiet hk0).cell (i := 2) rfl
 have hpi := pins_at ((h.quiet hk0).c 2) hm.st.inv.ok
 have hp3 := hm.st.inv.pl
 have hk11 : (x.k == 11) = false := by simpa using h11
 obtain ⟨st,hst⟩ : ∃ st,M.st.pins = st := ⟨_,rfl⟩
 obtain ⟨PA,hPA⟩ : ∃ PA,pinAt st x.n = PA := ⟨_,rfl⟩
 have hidx := fun W A d (hW : Kept NoF W0 W) (hs : Src W 3 A st.length (pcells st)) => idxPin_any W A d st 250 (.pointer (some ⟨w.heap.size,0,none⟩)) (fun y => decide (y.id = x.n)) (fun args W => enters Tryz.func250 (by kernel_rfl) rfl args W) hs (by rw [<- hst];omega) (fun W2 y hW2 _ => pwhose_any W2 y w.heap.size x ((hn0.kept hW (fun z => z)).kept hW2 (fun z => z)))
 have hPA' : idxW (fun y : PinR => decide (y.id = x.n)) st 0 = PA := hPA
 simp only [hPA'] at hidx
 have hpi2 : Calls Tryz.prog 55 #[.pointer (some ⟨X.sb,0,none⟩)] W0 (NewPin W0 st) := by rw [<- hst];exact hpi
 rw [hst,hPA] at h0
 rw [hst] at hp
 subst h0
 have hkl : kk < st.length := (List.getElem?_eq_some_iff.1 hp).1
 have hk0' : (0 : Int) <= (kk : Int) := by omega
 have hkneg : ¬ (kk : Int) < 0 := by omega
 have z7 : W0.cell? ⟨w.heap.size,7,none⟩ = some (.int .i64 x.n) := hn0.cell 7
 have hwr : ∀ W,Kept NoF W0 W -> Calls Tryz.prog 44 #[.pointer (some ⟨X.mb,0,none⟩),.agg (ncell (npin p)).toArray] W fun e w' => (∃ z,e = .returned (.int .i64 z)) /\ ∃ X',Step w X M w' X' (writeM M (npin p)) /\ LgB X' (writeM M (npin p)).lg (c + 1) /\ Has w' w.heap.size 46 (xcell x).toArray /\ ¬ foot X' (writeM M (npin p)) w.heap.size := fun W hW => by
  refine (write_any ((h.quiet hk0).quiet hW) hb hc hm.st.inv.ok (npin p) (nt_ok _ _ _ _ _ _) (nu_nt 6 0 p hps (by omega)) (npin_off _ _)).mono ?_
  rintro e w' ⟨rfl,X',h1,h2⟩
  have h3 := h1.has (hn0.kept hW (fun z => z)) hoff
  exact ⟨⟨_,rfl⟩,X',(Step.refl h (hk0.then hW)).trans h1,h2,h3.1,h3.2⟩
 have hMp := writeM_pins M (npin p)
 obtain ⟨M1,hM1⟩ : ∃ M1,writeM M (npin p) = M1 := ⟨_,rfl⟩
 simp only [hM1] at hwr
 rw [hM1] at hMp
 simp only [npin,nunpin,nt,ncell,List.length_nil,ans0] at hwr
 obtain ⟨Q,hQ⟩ : ∃ Q,MPost w X M c (.tuple #[.int .i64 x.n,.int .i64 0]) { writeM M (npin p) with pins := renewG M.pins x.n } 1 = Q := ⟨_,rfl⟩
 have hQok : ∀ W X5,Step w X M W X5 { M1 with pins := renewG M.pins x.n } -> LgB X5 M1.lg (c + 1) -> Q (.returned (.tuple #[.int .i64 x.n,.int .i64 0])) W := fun W X5 h1 h2 => by
  rw [<- hQ,hM1]
  exact ⟨rfl,X5,h1,h2⟩
 have e3 : MPost w X M c (.tuple #[.int .i64 (x.n,(0 : Int)).1,.int .i64 (x.n,(0 : Int)).2]) { writeM M (npin p) with pins := renewG M.pins x.n } 1 = Q := hQ
 rw [e3]
 have HQO := hZ0 hQok;have HMP := hZ0 hMp;have HW := hZ0 hwr
 have HPI := hZ0 hpi2;have HI := hZ0 hidx;have HK0 := hZ0 hk0;have HP := hZ0 hp;have HN0 := hZ0 hn0
 have HP3 := hZ0 hm.p3
 clear hpi hpi2 hidx hk0 h hb hc hm hx hn0 hoff e1 e2 e3 hst hPA hPA' hp3 hQok hMp hwr hQ hM1 hp hpm hpp hps
 go_enter Tryz.func144,Tryz.ntmps144
 go_wp2_with fail
 refine HPI.out.mono ?_
 rintro e w2 ⟨A,d,rfl,hn,hk⟩
 have hix := HI.out w2 A d hk (Src.of_own hn.1)
 have HIX := hZ0 hix;have HK2 := hZ0 hk;have HN2 := hZ0 hn;clear hix hn hk HPI
 have b2 : ∀ W,Kept NoF W0 W -> True := fun _ _ => trivial
 clear b2
 clear z0 q2 z7
 go_wp2_with fail
 refine HIX.out.mono ?_
 rintro e w3 ⟨rfl,hk⟩
 have hk3 := HK2.out.then hk
 obtain ⟨ad,rfl,had,x0,x1,x2⟩ := pin_cells (Src.of_own (NewSl.kept HN2.out hk).1) (by omega) kk p HP.out
 have z0 : w3.cell? ⟨w.heap.size,0,none⟩ = some (.int .i64 x.k) := (HN0.out.kept hk3 (fun z => z)).cell 0
 have z7 : w3.cell? ⟨w.heap.size,7,none⟩ = some (.int .i64 x.n) := (HN0.out.kept hk3 (fun z => z)).cell 7
 have hwr := HW.out w3 hk3
 have HWR := hZ0 hwr;clear hwr hk hk3 HIX HW
 go_wp2_with fail
 clear z0 z7 x0 x1 x2
 refine HWR.out.mono ?_
 rintro e w5 ⟨⟨zw,rfl⟩,X5,s5,hlb,hn5,ho5⟩
 have z3 : w5.cell? ⟨X.mb,3,none⟩ = some (.slice X5.pA M.pins.length X5.pc) := by
  have := s5.at'.cell (i := 3) (v := .slice X5.pA M1.pins.length X5.pc) rfl
  rw [s5.mb,HMP.out] at this;exact this
 have f3 : w5.frozen? ⟨X.mb,3,none⟩ = false := by
  have := Has.frozen (s5.at'.c 0) 3
  rw [s5.mb] at this;exact this
 have p7 : w5.cell? ⟨w.heap.size,7,none⟩ = some (.int .i64 x.n) := hn5.cell 7
 have hsrc : Src w5 3 X5.pA M.pins.length (pcells M.pins) := by
  have := Src.of_own (s5.at'.c 3)
  rw [HMP.out] at this;exact this
 have hcap : M.pins.length <= X5.pc := by
  have := (own_cap (s5.at'.c 3)).1
  rw [HMP.out] at this;exact this
 have hgr : ∀ W,Kept NoF w5 W -> _ := fun W hW => renewG_any W X5.pA X5.pc M.pins x.n (hsrc.kept hW (fun _ _ z => z)) hcap (by have := HP3.out;omega)
 have hz3 : ∀ W,Kept NoF w5 W -> W.cell? ⟨X.mb,3,none⟩ = some (.slice X5.pA M.pins.length X5.pc) /\ W.frozen? ⟨X.mb,3,none⟩ = false /\ W.cell? ⟨w.heap.size,7,none⟩ = some (.int .i64 x.n) := fun W hW => by
  refine ⟨?_,?_,(hn5.kept hW (fun z => z)).cell 7⟩
  ·have := (s5.at'.quiet hW).cell (i := 3) (v := .slice X5.pA M1.pins.length X5.pc) rfl
   rw [s5.mb,HMP.out] at this;exact this
  ·have := Has.frozen ((s5.at'.quiet hW).c 0) 3
   rw [s5.mb] at this;exact this
 have HGR := hZ0 hgr;have HZ3 := hZ0 hz3;have HS5 := hZ0 s5;have HLB := hZ0 hlb;have HN5 := hZ0 hn5;have HO5 := hZ0 ho5
 clear hgr hz3 s5 hlb hn5 ho5 hsrc hcap
 go_wp2_with fail
 go_region_with (go_at_call 231;refine (HGR.out _ (by (repeat' (first | (with_reducible first | exact kR0 | apply kP0 | apply kN0 | apply kD0 | apply kA0) | (right;simp;done))))).mono ?_;rintro e w6 ⟨A6,c6,zz,rfl,hn6,hk6⟩;have hkk := Kept.then (F := NoF) (a := w5) (by (repeat' (first | (with_reducible first | exact kR0 | apply kP0 | apply kN0 | apply kD0 | apply kA0) | (right;simp;done)))) hk6;obtain ⟨z6,f6,p6⟩ := HZ3.out _ hkk;have HN6 := hZ0 hn6;have HK6 := hZ0 hkk;clear hn6 hk6 hkk)
 all_goals (
  clear z6 f6 z3 f3 p7
  have hne : ¬ X.mb = w.heap.size := fun e => HO5.out ⟨0,by rw [<- HS5.out.mb] at e;exact e.symm⟩
  have hs6 := Step.setPins (HS5.out.quiet HK6.out) HN6.out.1 (fun k hk => by
   have h1 := HN6.out.2 k hk
   have h2 := HS5.out.k.size
   have h3 : w5.heap.size <= k := h1
   exact ⟨Nat.le_trans h2 h3,fun hf => by have := HS5.out.at'.lt hf;omega⟩)
  rw [HS5.out.mb] at hs6
  have HF := hZ0 (HQO.out _ _ hs6 ⟨HLB.out.n,HLB.out.f,HLB.out.l,HLB.out.hd⟩)
  clear hs6
  go_wp2
  exact HF.out)
theorem grant_free (h : MAt w X M) (hb : LgB X M.lg c) (hc : c <= 4000) (hm : MOk M k) (x : MsgR) (hx : XOk w x) (h11 : x.k ≠ 11) (h12 : x.k ≠ 12) (p : PinR) (kk : Nat) (h0 : pinAt M.st.pins x.n = (kk : Int)) (hp : M.st.pins[kk]? = some p) :
  Calls Tryz.prog 144 #[.pointer (some ⟨X.mb,0,none⟩),xagg x] w (MPost w X M c (.tuple #[.int .i64 (grantV M x).1,.int .i64 (grantV M x).2]) (grantM M x) 1) := by
 have hpm : p ∈ M.st.pins := List.mem_of_getElem? hp
 have hpp := hm.st.inv.pin p hpm
 have hps := hm.st.su.pin p hpm
 have e1 : grantM M x = { writeM M (nunpin x.n) with pins := freeG M.pins x.n } := by unfold grantM;rw [if_neg h11,if_neg (by omega),h0,Int.toNat_natCast,hp];dsimp only;rw [if_neg h12]
 have e2 : grantV M x = (x.n,0) := by unfold grantV;rw [if_neg h11,if_neg (by omega)]
 rw [e1,e2]
 obtain ⟨W0,hW0⟩ : ∃ W0,w.alloc (.cells (xcell x).toArray 46) = W0 := ⟨_,rfl⟩
 have hk0 : Kept NoF w W0 := by rw [<- hW0];(repeat' (first | (with_reducible first | exact kR0 | apply kP0 | apply kN0 | apply kD0 | apply kA0) | (right;simp;done)))
 have hn0 : Has W0 w.heap.size 46 (xcell x).toArray := by rw [<- hW0];exact Has.new _ _ _
 have hoff : ¬ foot X M w.heap.size := fun hf => absurd (h.lt hf) (Nat.lt_irrefl _)
 have z0 : W0.cell? ⟨w.heap.size,0,none⟩ = some (.int .i64 x.k) := hn0.cell 0
 have q2 : W0.cell? ⟨X.mb,2,none⟩ = some (.pointer (some ⟨X.sb,0,none⟩)) := (h.quiet hk0).cell (i := 2) rfl
 have hpi := pins_at ((h.quiet hk0).c 2) hm.st.inv.ok
 have hp3 := hm.st.inv.pl
 have hk11 : (x.k == 11) = false := by simpa using h11
 obtain ⟨st,hst⟩ : ∃ st,M.st.pins = st := ⟨_,rfl⟩
 obtain ⟨PA,hPA⟩ : ∃ PA,pinAt st x.n = PA := ⟨_,rfl⟩
 have hidx := fun W A d (hW : Kept NoF W0 W) (hs : Src W 3 A st.length (pcells st)) => idxPin_any W A d st 250 (.pointer (some ⟨w.heap.size,0,none⟩)) (fun y => decide (y.id = x.n)) (fun args W => enters Tryz.func250 (by kernel_rfl) rfl args W) hs (by rw [<- hst];omega) (fun W2 y hW2 _ => pwhose_any W2 y w.heap.size x ((hn0.kept hW (fun z => z)).kept hW2 (fun z => z)))
 have hPA' : idxW (fun y : PinR => decide (y.id = x.n)) st 0 = PA := hPA
 simp only [hPA'] at hidx
 have hpi2 : Calls Tryz.prog 55 #[.pointer (some ⟨X.sb,0,none⟩)] W0 (NewPin W0 st) := by rw [<- hst];exact hpi
 rw [hst,hPA] at h0
 rw [hst] at hp
 subst h0
 have hkl : kk < st.length := (List.getElem?_eq_some_iff.1 hp).1
 have hk0' : (0 : Int) <= (kk : Int) := by omega
 have hkneg : ¬ (kk : Int) < 0 := by omega
 have z7 : W0.cell? ⟨w.heap.size,7,none⟩ = some (.int .i64 x.n) := hn0.cell 7
 have hwr : ∀ W,Kept NoF W0 W -> Calls Tryz.prog 44 #[.pointer (some ⟨X.mb,0,none⟩),.agg (ncell (nunpin x.n)).toArray] W fun e w' => (∃ z,e = .returned (.int .i64 z)) /\ ∃ X',Step w X M w' X' (writeM M (nunpin x.n)) /\ LgB X' (writeM M (nunpin x.n)).lg (c + 1) /\ Has w' w.heap.size 46 (xcell x).toArray /\ ¬ foot X' (writeM M (nunpin x.n)) w.heap.size := fun W hW => by
  refine (write_any ((h.quiet hk0).quiet hW) hb hc hm.st.inv.ok (nunpin x.n) (nt_ok _ _ _ _ _ _) (nu_nt 7 x.n ⟨0,0,0⟩ (by decide) (by decide)) (nunpin_off _ _)).mono ?_
  rintro e w' ⟨rfl,X',h1,h2⟩
  have h3 := h1.has (hn0.kept hW (fun z => z)) hoff
  exact ⟨⟨_,rfl⟩,X',(Step.refl h (hk0.then hW)).trans h1,h2,h3.1,h3.2⟩
 have hMp := writeM_pins M (nunpin x.n)
 obtain ⟨M1,hM1⟩ : ∃ M1,writeM M (nunpin x.n) = M1 := ⟨_,rfl⟩
 simp only [hM1] at hwr
 rw [hM1] at hMp
 simp only [npin,nunpin,nt,ncell,List.length_nil,ans0] at hwr
 obtain ⟨Q,hQ⟩ : ∃ Q,MPost w X M c (.tuple #[.int .i64 x.n,.int .i64 0]) { writeM M (nunpin x.n) with pins := freeG M.pins x.n } 1 = Q := ⟨_,rfl⟩
 have hQok : ∀ W X5,Step w X M W X5 { M1 with pins := freeG M.pins x.n } -> LgB X5 M1.lg (c + 1) -> Q (.returned (.tuple #[.int .i64 x.n,.int .i64 0])) W := fun W X5 h1 h2 => by
  rw [<- hQ,hM1]
  exact ⟨rfl,X5,h1,h2⟩
 have e3 : MPost w X M c (.tuple #[.int .i64 (x.n,(0 : Int)).1,.int .i64 (x.n,(0 : Int)).2]) { writeM M (nunpin x.n) with pins := freeG M.pins x.n } 1 = Q := hQ
 rw [e3]
 have HQO := hZ0 hQok;have HMP := hZ0 hMp;have HW := hZ0 hwr
 have HPI := hZ0 hpi2;have HI := hZ0 hidx;have HK0 := hZ0 hk0;have HP := hZ0 hp;have HN0 := hZ0 hn0
 have HP3 := hZ0 hm.p3
 clear hpi hpi2 hidx hk0 h hb hc hm hx hn0 hoff e1 e2 e3 hst hPA hPA' hp3 hQok hMp hwr hQ hM1 hp hpm hpp hps
 go_enter Tryz.func144,Tryz.ntmps144
 go_wp2_with fail
 refine HPI.out.mono ?_
 rintro e w2 ⟨A,d,rfl,hn,hk⟩
 have hix := HI.out w2 A d hk (Src.of_own hn.1)
 have HIX := hZ0 hix;have HK2 := hZ0 hk;have HN2 := hZ0 hn;clear hix hn hk HPI
 have b2 : ∀ W,Kept NoF W0 W -> True := fun _ _ => trivial
 clear b2
 clear z0 q2 z7
 go_wp2_with fail
 refine HIX.out.mono ?_
 rintro e w3 ⟨rfl,hk⟩
 have hk3 := HK2.out.then hk
 obtain ⟨ad,rfl,had,x0,x1,x2⟩ := pin_cells (Src.of_own (NewSl.kept HN2.out hk).1) (by omega) kk p HP.out
 have z0 : w3.cell? ⟨w.heap.size,0,none⟩ = some (.int .i64 x.k) := (HN0.out.kept hk3 (fun z => z)).cell 0
 have z7 : w3.cell? ⟨w.heap.size,7,none⟩ = some (.int .i64 x.n) := (HN0.out.kept hk3 (fun z => z)).cell 7
 have hwr := HW.out w3 hk3
 have HWR := hZ0 hwr;clear hwr hk hk3 HIX HW
 go_wp2_with fail
 clear z0 z7 x0 x1 x2
 refine HWR.out.mono ?_
 rintro e w5 ⟨⟨zw,rfl⟩,X5,s5,hlb,hn5,ho5⟩
 have z3 : w5.cell? ⟨X.mb,3,none⟩ = some (.slice X5.pA M.pins.length X5.pc) := by
  have := s5.at'.cell (i := 3) (v := .slice X5.pA M1.pins.length X5.pc) rfl
  rw [s5.mb,HMP.out] at this;exact this
 have f3 : w5.frozen? ⟨X.mb,3,none⟩ = false := by
  have := Has.frozen (s5.at'.c 0) 3
  rw [s5.mb] at this;exact this
 have p7 : w5.cell? ⟨w.heap.size,7,none⟩ = some (.int .i64 x.n) := hn5.cell 7
 have hsrc : Src w5 3 X5.pA M.pins.length (pcells M.pins) := by
  have := Src.of_own (s5.at'.c 3)
  rw [HMP.out] at this;exact this
 have hcap : M.pins.length <= X5.pc := by
  have := (own_cap (s5.at'.c 3)).1
  rw [HMP.out] at this;exact this
 have hgr : ∀ W,Kept NoF w5 W -> _ := fun W hW => freeG_any W X5.pA X5.pc M.pins x.n (hsrc.kept hW (fun _ _ z => z)) (by have := HP3.out;omega)
 have hz3 : ∀ W,Kept NoF w5 W -> W.cell? ⟨X.mb,3,none⟩ = some (.slice X5.pA M.pins.length X5.pc) /\ W.frozen? ⟨X.mb,3,none⟩ = false /\ W.cell? ⟨w.heap.size,7,none⟩ = some (.int .i64 x.n) := fun W hW => by
  refine ⟨?_,?_,(hn5.kept hW (fun z => z)).cell 7⟩
  ·have := (s5.at'.quiet hW).cell (i := 3) (v := .slice X5.pA M1.pins.length X5.pc) rfl
   rw [s5.mb,HMP.out] at this;exact this
  ·have := Has.frozen ((s5.at'.quiet hW).c 0) 3
   rw [s5.mb] at this;exact this
 have HGR := hZ0 hgr;have HZ3 := hZ0 hz3;have HS5 := hZ0 s5;have HLB := hZ0 hlb;have HN5 := hZ0 hn5;have HO5 := hZ0 ho5
 clear hgr hz3 s5 hlb hn5 ho5 hsrc hcap
 go_wp2_with fail
 go_region_with (go_at_call 136;refine (HGR.out _ (by (repeat' (first | (with_reducible first | exact kR0 | apply kP0 | apply kN0 | apply kD0 | apply kA0) | (right;simp;done))))).mono ?_;rintro e w6 ⟨A6,c6,zz,rfl,hn6,hk6⟩;have hkk := Kept.then (F := NoF) (a := w5) (by (repeat' (first | (with_reducible first | exact kR0 | apply kP0 | apply kN0 | apply kD0 | apply kA0) | (right;simp;done)))) hk6;obtain ⟨z6,f6,p6⟩ := HZ3.out _ hkk;have HN6 := hZ0 hn6;have HK6 := hZ0 hkk;clear hn6 hk6 hkk)
 all_goals (
  clear z6 f6 z3 f3 p7
  have hne : ¬ X.mb = w.heap.size := fun e => HO5.out ⟨0,by rw [<- HS5.out.mb] at e;exact e.symm⟩
  have hs6 := Step.setPins (HS5.out.quiet HK6.out) HN6.out.1 (fun k hk => by
   have h1 := HN6.out.2 k hk
   have h2 := HS5.out.k.size
   have h3 : w5.heap.size <= k := h1
   exact ⟨Nat.le_trans h2 h3,fun hf => by have := HS5.out.at'.lt hf;omega⟩)
  rw [HS5.out.mb] at hs6
  have HF := hZ0 (HQO.out _ _ hs6 ⟨HLB.out.n,HLB.out.f,HLB.out.l,HLB.out.hd⟩)
  clear hs6
  go_wp2
  exact HF.out)
theorem mgrant_any (h : MAt w X M) (hb : LgB X M.lg c) (hc : c <= 4000) (hm : MOk M k) (x : MsgR) (hx : XOk w x) :
  Calls Tryz.prog 144 #[.pointer (some ⟨X.mb,0,none⟩),xagg x] w (MPost w X M c (.tuple #[.int .i64 (grantV M x).1,.int .i64 (grantV M x).2]) (grantM M x) 1) := by
 by_cases h11 : x.k = 11
 ·exact grant_pin h hb hc hm x hx h11
 ·rcases pinAt_cases M.st.pins x.n with h0 | ⟨kk,p,h0,hp,-⟩
  ·exact grant_none h hb hc hm x hx h11 (by omega)
  ·by_cases h12 : x.k = 12
   ·exact grant_renew h hb hc hm x hx h11 h12 p kk h0 hp
   ·exact grant_free h hb hc hm x hx h11 h12 p kk h0 hp
end
end Mas
end Go.Proofs.YtolkgbafebehfaaGreat

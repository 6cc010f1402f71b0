/- Part 53 of what the proof needs. -/
import Derived.Test.YtolkgbafebehfaaGreatHP50
import Derived.Test.YtolkgbafebehfaaGreatHP51
set_option linter.unusedSimpArgs false
set_option linter.unusedVariables false
set_option maxHeartbeats 32000000
set_option maxRecDepth 100000
namespace Go.Proofs.YtolkgbafebehfaaGreat
open Go.RowKit
set_option maxRecDepth 100000
namespace Mas
open Plan Vn Mst Wat IM Nte Msg
section
variable {w w' : World} {X X0 : MX} {M M0 : MR} {c k : Nat}
theorem Step.row {e : TypeId} {size n : Nat} {v : Value} {xs : List Value} (h : Step w X M w' X0 M0) (hr : w.ownsRow 0 e size v n xs) (hn : ∀ q,v.ownBlock = some q -> ¬ foot X M q) : w'.ownsRow 0 e size v n xs /\ (∀ q,v.ownBlock = some q -> ¬ foot X0 M0 q) :=
 ⟨own_kept hr h.k hn,fun q hq hf => by
  rcases h.g q hf with y | y
  ·exact hn q hq y
  ·have := own_lt hr hq;omega⟩
theorem tell_any (h : MAt w X M) (hb : LgB X M.lg c) (ho : M.out.length <= 1000) (hok : SOk M.st) (hu : SU M.st) (b : Nat) (hbx : Has w b 29 #[.pointer (some ⟨X.mb,0,none⟩)]) (m : Mem) :
  Calls Tryz.prog 66 #[magg m,.pointer (some ⟨b,0,none⟩)] w (MPost w X M c (.tuple #[]) (whereM M m.1) 0) := by
 obtain ⟨m1,m2⟩ := m
 obtain ⟨W0,hW0⟩ : ∃ W0,w.alloc (.cells #[.int .i64 m1,.int .i64 m2] 53) = W0 := ⟨_,rfl⟩
 have hk0 : Kept NoF w W0 := by rw [<- hW0];(repeat' (first | (with_reducible first | exact kR0 | apply kP0 | apply kN0 | apply kD0 | apply kA0) | (right;simp;done)))
 have hn0 : Has W0 w.heap.size 53 #[.int .i64 m1,.int .i64 m2] := by rw [<- hW0];exact Has.new _ _ _
 have q0 : W0.cell? ⟨w.heap.size,0,none⟩ = some (.int .i64 m1) := hn0.cell 0
 have q1 : W0.cell? ⟨b,0,none⟩ = some (.pointer (some ⟨X.mb,0,none⟩)) := (hbx.kept hk0 (fun z => z)).cell 0
 have hw := where_any (h.quiet hk0) hb ho hok hu m1
 have hfin : ∀ e W,MPost W0 X M c (.tuple #[]) (whereM M m1) 0 e W -> MPost w X M c (.tuple #[]) (whereM M m1) 0 e W := fun e W hp => by
  obtain ⟨h1,X',h2,h3⟩ := hp
  exact ⟨h1,X',(Step.refl h hk0).trans h2,h3⟩
 have HW := hZ0 hw;have HF := hZ0 hfin
 clear hw hfin hk0 hn0 h hb ho hok hu hbx
 obtain ⟨M',hM'⟩ : ∃ M',whereM M m1 = M' := ⟨_,rfl⟩
 simp only [hM'] at HW HF ⊢
 clear hM'
 go_enter Tryz.func66,Tryz.ntmps66
 go_wp2_with fail
 clear hW0 q0 q1
 refine HW.out.mono ?_
 rintro e w2 ⟨rfl,X',h1,h2⟩
 have hq := HF.out _ _ ⟨rfl,X',h1,h2⟩
 have HQ := hZ0 hq;clear hq h1 h2
 go_wp2
 go_end0
 exact HQ.out
structure Tk (w : World) (X : MX) (M : MR) (c : Nat) (b : Nat) (p : Value) (e : TypeId) (size n : Nat) (v : Value) (xs : List Value) (W : World) (X1 : MX) (M1 : MR) : Prop where
 s : Step w X M W X1 M1
 lb : LgB X1 M1.lg c
 hb : Has W b 29 #[p]
 ob : ¬ foot X1 M1 b
 hr : W.ownsRow 0 e size v n xs
 hn : ∀ q,v.ownBlock = some q -> ¬ foot X1 M1 q
section
variable {W W' : World} {X1 X2 : MX} {M1 M2 : MR} {b : Nat} {p : Value} {e : TypeId} {size n : Nat} {v : Value} {xs : List Value}
theorem Tk.quiet (h : Tk w X M c b p e size n v xs W X1 M1) (hk : Kept NoF W W') : Tk w X M c b p e size n v xs W' X1 M1 := ⟨h.s.quiet hk,h.lb,h.hb.kept hk (fun z => z),h.ob,own_kept h.hr hk (fun _ _ z => z),h.hn⟩
theorem Tk.step (h : Tk w X M c b p e size n v xs W X1 M1) (hs : Step W X1 M1 W' X2 M2) {c2 : Nat} (hl : LgB X2 M2.lg c2) : Tk w X M c2 b p e size n v xs W' X2 M2 := by
 have a1 := hs.has h.hb h.ob
 have a2 := hs.row h.hr h.hn
 exact ⟨h.s.trans hs,hl,a1.1,a1.2,a2.1,a2.2⟩
end
attribute [local go_sem] run_field_ms
theorem tick_any (h : MAt w X M) (hb : LgB X M.lg c) (hc : c <= 2900) (hm : MOk M k) (hk : k <= 1000) (ho : M.out.length <= 90) :
  Calls Tryz.prog 21 #[.pointer (some ⟨X.mb,0,none⟩)] w (OutPost w X M (c + 6) (tick4 M).out (tickM M)) := by
 obtain ⟨W0,hW0⟩ : ∃ W0,w.alloc (.cells #[.pointer (some ⟨X.mb,0,none⟩)] 29) = W0 := ⟨_,rfl⟩
 have hk0 : Kept NoF w W0 := by rw [<- hW0];(repeat' (first | (with_reducible first | exact kR0 | apply kP0 | apply kN0 | apply kD0 | apply kA0) | (right;simp;done)))
 have hn0 : Has W0 w.heap.size 29 #[.pointer (some ⟨X.mb,0,none⟩)] := by rw [<- hW0];exact Has.new _ _ _
 have hFl : ∀ q,foot X M q -> q < w.heap.size := fun q hq => h.lt hq
 have hb0 : ¬ foot X M w.heap.size := fun hf => Nat.lt_irrefl _ (hFl _ hf)
 have hnone := mnone_any (h.quiet hk0)
 have htk := Lea.ltick_any W0 X.pA X.pc M.pins (Src.of_own ((h.quiet hk0).c 3)) (by have := hm.p3;omega) (fun p hp => by have := hm.pin p hp;omega)
 have q3 : W0.cell? ⟨X.mb,3,none⟩ = some (.slice X.pA M.pins.length X.pc) := (h.quiet hk0).cell (i := 3) rfl
 have hg3 : (Lea.goneL M.pins).length <= 3 := Nat.le_trans (Lea.gone_len _) hm.p3
 obtain ⟨bx,hbx⟩ : ∃ bx,w.heap.size = bx := ⟨_,rfl⟩
 rw [hbx] at hn0 hb0
 have q1 : W0.cell? ⟨bx,0,none⟩ = some (.pointer (some ⟨X.mb,0,none⟩)) := hn0.cell 0
 have hfx : ∀ W (A : Option Addr) (c1 : Nat),Kept NoF W0 W -> W.cell? ⟨bx,0,none⟩ = some (.pointer (some ⟨X.mb,0,none⟩)) /\ W.cell? ⟨X.mb,3,none⟩ = some (.slice X.pA M.pins.length X.pc) /\ W.frozen? ⟨X.mb,3,none⟩ = false := fun W A c1 hW =>
  ⟨(hn0.kept hW (fun z => z)).cell 0,(h.quiet (hk0.then hW)).cell (i := 3) rfl,Has.frozen ((h.quiet (hk0.then hW)).c 0) 3⟩
 have hset : ∀ W A c1,Kept NoF W0 W -> NewSl 79 3 W0.heap.size W A (Lea.ticked M.pins).length c1 (pcells (Lea.ticked M.pins)) -> ∀ e size n v xs,e ≠ 79 -> W.ownsRow 0 e size v n xs -> (∀ q,v.ownBlock = some q -> W0.heap.size <= q) ->
   ∃ X1,X1.mb = X.mb /\ Tk w X M c bx (.pointer (some ⟨X.mb,0,none⟩)) e size n v xs (W.setCell ⟨X.mb,3,none⟩ (.slice A (Lea.ticked M.pins).length c1)) X1 (tick0 M) := fun W A c1 hW hn e size n v xs hne hr hq => by
  have h1 := hk0.size
  have hs := Step.setPins (Step.refl h (hk0.then hW)) hn.1 (fun k hk => by
   have h2 := hn.2 k hk
   exact ⟨by omega,fun hf => by have := hFl _ hf;omega⟩)
  have hkk : Kept (foot X M) W (W.setCell ⟨X.mb,3,none⟩ (.slice A (Lea.ticked M.pins).length c1)) := (Kept.refl _ W).put (.inl ⟨0,rfl⟩)
  refine ⟨{ X with pA := A,pc := c1 },rfl,⟨hs,⟨hb.n,hb.f,hb.l,hb.hd⟩,(hn0.kept hW (fun z => z)).kept hkk hb0,fun hf => ?_,own_kept hr hkk (fun g hg hf => ?_),fun q hq2 hf => ?_⟩⟩
  ·obtain ⟨i,hi⟩ := hf
   by_cases h3 : i = 3
   ·subst h3
    have h4 := hn.2 bx hi
    have h5 := hn0.lt
    omega
   ·have hfb : foot X M bx := ⟨i,by rcases i with _ | _ | _ | _ | _ | _ | _ | _ | _ | _ | _ | i <;> first | exact hi | exact absurd rfl h3⟩
    exact hb0 hfb
  ·have := hq g hg;have := hFl g hf;omega
  ·have h6 := hq q hq2
   obtain ⟨i,hi⟩ := hf
   by_cases h3 : i = 3
   ·subst h3
    have h7 : (Value.slice A (Lea.ticked M.pins).length c1).ownBlock = some q := hi
    exact absurd hq2 (Lea.rows_apart hn.1 hr hne q h7)
   ·have hfb : foot X M q := ⟨i,by rcases i with _ | _ | _ | _ | _ | _ | _ | _ | _ | _ | _ | i <;> first | exact hi | exact absurd rfl h3⟩
    have := hFl q hfb;omega
 have hpins : ∀ n,MOk (unpinN (tick0 M) n) k := fun n => (hm.tick0).unpinN n
 have hwr : ∀ W X1 i (g : Int) e size n v xs,i <= 3 -> Tk w X M (c + i) bx (.pointer (some ⟨X.mb,0,none⟩)) e size n v xs W X1 (unpinN (tick0 M) ((Lea.goneL M.pins).take i)) -> (Lea.goneL M.pins)[i]? = some g ->
   Calls Tryz.prog 44 #[.pointer (some ⟨X.mb,0,none⟩),.agg (ncell (nunpin g)).toArray] W fun e0 W' => (∃ z : Int,e0 = .returned (.int .i64 z)) /\ ∃ X2,Tk w X M (c + (i + 1)) bx (.pointer (some ⟨X.mb,0,none⟩)) e size n v xs W' X2 (unpinN (tick0 M) ((Lea.goneL M.pins).take (i + 1))) := fun W X1 i g e size n v xs hi ht hg => by
  have e1 : (Lea.goneL M.pins).take (i + 1) = (Lea.goneL M.pins).take i ++ [g] := Plan.take_snoc hg
  rw [e1,unpinN_snoc]
  have hw := write_any ht.s.at' ht.lb (by omega) (hpins _).st.inv.ok (nunpin g) (nt_ok _ _ _ _ _ _) (nu_nt _ _ _ (by decide) (by decide)) (nunpin_off _ _)
  rw [ht.s.mb] at hw
  refine hw.mono ?_
  rintro e0 W' ⟨rfl,X2,h1,h2⟩
  exact ⟨⟨_,rfl⟩,X2,ht.step h1 h2⟩
 have hwat : ∀ W X1 e size n v xs,Tk w X M (c + (Lea.goneL M.pins).length) bx (.pointer (some ⟨X.mb,0,none⟩)) e size n v xs W X1 (tick1 M) -> ∃ wb,W.cell? ⟨X.mb,4,none⟩ = some (.pointer (some ⟨wb,0,none⟩)) /\ Calls Tryz.prog 63 #[.pointer (some ⟨wb,0,none⟩)] W fun e0 W' => (∃ z : Int,e0 = .returned (.int .i64 z)) /\ ∃ X2,Tk w X M (c + 3) bx (.pointer (some ⟨X.mb,0,none⟩)) e size n v xs W' X2 (tick2 M) := fun W X1 e size n v xs ht => by
  refine ⟨X1.wb,by have := ht.s.at'.cell (i := 4) (v := .pointer (some ⟨X1.wb,0,none⟩)) rfl;rw [ht.s.mb] at this;exact this,?_⟩
  refine (wtick_any (ht.s.at'.c 4) (hm.tick1).wat).mono ?_
  rintro e0 W' ⟨rfl,h1,h2⟩
  refine ⟨⟨_,rfl⟩,X1,ht.step (MAt.setWat ht.s.at' h1 h2) ?_⟩
  exact LgB.mono ht.lb (by omega)
 have hnext : ∀ W X1 e size n v xs,Tk w X M (c + 3) bx (.pointer (some ⟨X.mb,0,none⟩)) e size n v xs W X1 (tick2 M) -> Calls Tryz.prog 64 #[.pointer (some ⟨X.mb,0,none⟩)] W fun e0 W' => e0 = .returned (.tuple #[]) /\ ∃ X2,Tk w X M (c + 4) bx (.pointer (some ⟨X.mb,0,none⟩)) e size n v xs W' X2 (nextM (tick2 M)) := fun W X1 e size n v xs ht => by
  have hn := next_any' ht.s.at' ht.lb (by omega) hm.tick2 hk
  rw [ht.s.mb] at hn
  refine hn.mono ?_
  rintro e0 W' ⟨rfl,X2,h1,h2⟩
  exact ⟨rfl,X2,ht.step h1 h2⟩
 have hhor : ∀ W X1 e size n v xs,Tk w X M (c + 4) bx (.pointer (some ⟨X.mb,0,none⟩)) e size n v xs W X1 (nextM (tick2 M)) -> Calls Tryz.prog 65 #[.pointer (some ⟨X.mb,0,none⟩)] W fun e0 W' => e0 = .returned (.tuple #[]) /\ ∃ X2,Tk w X M (c + 5) bx (.pointer (some ⟨X.mb,0,none⟩)) e size n v xs W' X2 (tick3 M) := fun W X1 e size n v xs ht => by
  have hn := horizon_any' ht.s.at' ht.lb (by omega) (hm.tick2).nextM
  rw [ht.s.mb] at hn
  refine hn.mono ?_
  rintro e0 W' ⟨rfl,X2,h1,h2⟩
  exact ⟨rfl,X2,ht.step h1 h2⟩
 have h3 := hm.tick3
 have hms4 : (tick3 M).st.ms.length <= 4 := by
  rcases h3.st.inv.conf with q | q
  ·rw [q.2.1];decide
  ·exact (chk_zero q.1).2.2.1
 have hconf : ∀ W X1 e size n v xs,Tk w X M (c + 5) bx (.pointer (some ⟨X.mb,0,none⟩)) e size n v xs W X1 (tick3 M) -> ∃ sb,W.cell? ⟨X.mb,2,none⟩ = some (.pointer (some ⟨sb,0,none⟩)) /\ Calls Tryz.prog 48 #[.pointer (some ⟨sb,0,none⟩)] W fun e0 W' => ∃ A c1,e0 = .returned (cagg (tick3 M).st.ep A (tick3 M).st.ms.length c1 (tick3 M).st.fl) /\ Tk w X M (c + 5) bx (.pointer (some ⟨X.mb,0,none⟩)) 53 2 (tick3 M).st.ms.length (.slice A (tick3 M).st.ms.length c1) (mcells (tick3 M).st.ms) W' X1 (tellN (tick3 M) ((tick3 M).st.ms.take 0)) := fun W X1 e size n v xs ht => by
  refine ⟨X1.sb,by have := ht.s.at'.cell (i := 2) (v := .pointer (some ⟨X1.sb,0,none⟩)) rfl;rw [ht.s.mb] at this;exact this,?_⟩
  refine (conf_at (ht.s.at'.c 2) h3.st.inv.ok).mono ?_
  rintro e0 W' ⟨A,c1,rfl,h1,h2⟩
  have hq := ht.quiet h2
  exact ⟨A,c1,rfl,hq.s,hq.lb,hq.hb,hq.ob,h1.1,fun q hq2 hf => by have a1 := h1.2 q hq2;have a2 := ht.s.at'.lt hf;omega⟩
 have htell : ∀ W X1 (i : Nat) (m : Mem) e size n v xs,Tk w X M (c + 5) bx (.pointer (some ⟨X.mb,0,none⟩)) e size n v xs W X1 (tellN (tick3 M) ((tick3 M).st.ms.take i)) -> (tick3 M).st.ms[i]? = some m ->
   Calls Tryz.prog 66 #[magg m,.pointer (some ⟨bx,0,none⟩)] W fun e0 W' => e0 = .returned (.tuple #[]) /\ ∃ X2,Tk w X M (c + 5) bx (.pointer (some ⟨X.mb,0,none⟩)) e size n v xs W' X2 (tellN (tick3 M) ((tick3 M).st.ms.take (i + 1))) := fun W X1 i m e size n v xs ht hg => by
  have e1 : (tick3 M).st.ms.take (i + 1) = (tick3 M).st.ms.take i ++ [m] := Plan.take_snoc hg
  rw [e1,tellN_snoc]
  have hl := tellN_out (tick3 M) ((tick3 M).st.ms.take i)
  rw [tick3_out,List.length_take] at hl
  have h4 := h3.tellN ((tick3 M).st.ms.take i)
  have hbx := ht.hb
  rw [<- ht.s.mb] at hbx
  refine (tell_any ht.s.at' ht.lb (by omega) h4.st.inv.ok h4.st.su bx hbx m).mono ?_
  rintro e0 W' ⟨rfl,X2,h1,h2⟩
  exact ⟨rfl,X2,ht.step h1 h2⟩
 have hdone : ∀ W X1 e size n v xs,Tk w X M (c + 5) bx (.pointer (some ⟨X.mb,0,none⟩)) e size n v xs W X1 (tick4 M) -> Calls Tryz.prog 46 #[.pointer (some ⟨X.mb,0,none⟩)] W (OutPost w X M (c + 6) (tick4 M).out (tickM M)) := fun W X1 e size n v xs ht =>
  done_out hm (by omega) ht.s ht.lb (by omega) hm.tick4
 obtain ⟨G,hG⟩ : ∃ G,Lea.goneL M.pins = G := ⟨_,rfl⟩
 obtain ⟨P,hP⟩ : ∃ P,Lea.ticked M.pins = P := ⟨_,rfl⟩
 have ht1 : unpinN (tick0 M) (G.take G.length) = tick1 M := by rw [List.take_length,<- hG];rfl
 have ht4 : tellN (tick3 M) ((tick3 M).st.ms.take (tick3 M).st.ms.length) = tick4 M := by rw [List.take_length];rfl
 obtain ⟨M3,hM3⟩ : ∃ M3,tick3 M = M3 := ⟨_,rfl⟩
 obtain ⟨M4,hM4⟩ : ∃ M4,tick4 M = M4 := ⟨_,rfl⟩
 obtain ⟨o,hO⟩ : ∃ o,M4.out = o := ⟨_,rfl⟩
 obtain ⟨M9,hM9⟩ : ∃ M9,tickM M = M9 := ⟨_,rfl⟩
 obtain ⟨M2,hM2⟩ : ∃ M2,tick2 M = M2 := ⟨_,rfl⟩
 obtain ⟨M1,hM1⟩ : ∃ M1,tick1 M = M1 := ⟨_,rfl⟩
 obtain ⟨M0,hM0⟩ : ∃ M0,tick0 M = M0 := ⟨_,rfl⟩
 rw [hM4,hO,hM9]
 unfold Lea.TickPost at htk
 rw [hP,hG] at htk
 rw [hG] at hg3
 rw [hM1,hM0] at ht1
 rw [hM3,hM4] at ht4
 rw [hM3] at hms4
 simp only [hP,hM0] at hset
 simp only [hG,hM0] at hwr
 simp only [hG,hM1,hM2] at hwat
 simp only [hM2] at hnext hhor
 simp only [hM3] at hhor hconf htell
 simp only [hM4,hO,hM9] at hdone
 obtain ⟨ms,hms⟩ : ∃ ms,M3.st.ms = ms := ⟨_,rfl⟩
 rw [hms] at ht4 hms4
 simp only [hms] at hconf htell
 simp only [nunpin,nt,ncell,List.length_nil,ans0] at hwr
 have HNONE := hZ0 hnone;have HTK := hZ0 htk;have HFX := hZ0 hfx;have HSET := hZ0 hset;have HWR := hZ0 hwr;have HWAT := hZ0 hwat;have HNEXT := hZ0 hnext;have HHOR := hZ0 hhor;have HCONF := hZ0 hconf;have HTELL := hZ0 htell;have HDONE := hZ0 hdone
 have HT1 := hZ0 ht1;have HT4 := hZ0 ht4;have HG3 := hZ0 hg3;have HM4 := hZ0 hms4
 clear hk0 hn0 hFl hb0 hnone htk hfx hset hpins hwr hwat hnext hhor h3 hconf htell hdone hG hP ht1 ht4 hM3 hM4 hO hM9 hM2 hM1 hM0 hms hms4 hg3 h hb hc hm hk ho
 go_enter Tryz.func21,Tryz.ntmps21
 go_wp2_with fail
 clear hW0 hbx
 refine HNONE.out.mono ?_
 rintro e w1 ⟨rfl,rfl⟩
 go_wp2_with fail
 refine HTK.out.mono ?_
 rintro e w2 ⟨A,c1,B,d,rfl,hn1,hn2,hk2⟩
 clear q1 q3
 obtain ⟨q1,q3,f3⟩ := HFX.out w2 none 0 hk2
 obtain ⟨X1,hX1,ht⟩ := HSET.out w2 A c1 hk2 hn1 3 1 G.length (.slice B G.length d) (ints G) (by decide) hn2.1 hn2.2
 obtain ⟨W3,hW3⟩ : ∃ W3,w2.setCell ⟨X.mb,3,none⟩ (.slice A P.length c1) = W3 := ⟨_,rfl⟩
 rw [hW3] at ht
 have HT := hZ0 ht;clear ht hn1 hn2 hk2
 go_wp2_with fail
 clear q1 q3 f3 hW3
 go_loopw [6,26] (fun v6 v26 wr => ∃ (i : Nat) (X2 : MX),i <= G.length /\ v26 = .int .i64 i /\ Tk w X M (c + i) bx (.pointer (some ⟨X.mb,0,none⟩)) 3 1 G.length (.slice B G.length d) (ints G) wr X2 (unpinN M0 (G.take i))) (fun _ v26 _ => G.length - (intOf v26).toNat)
 case atStart => exact ⟨0,X1,Nat.zero_le _,rfl,HT.out⟩
 case round =>
  obtain ⟨i,X2,hi,rfl,ht⟩ := hrel
  have hg3 : G.length <= 3 := HG3.out
  by_cases hil : i < G.length
  ·obtain ⟨g,hg⟩ : ∃ g,G[i]? = some g := ⟨_,List.getElem?_eq_getElem hil⟩
   obtain ⟨ad,rfl,had,d0⟩ := int_cells (Src.of_own ht.hr) (by omega) i g hg
   have hw := HWR.out wr X2 i g _ _ _ _ _ (by have := HG3.out;omega) ht hg
   have q1 : wr.cell? ⟨bx,0,none⟩ = some (.pointer (some ⟨X.mb,0,none⟩)) := ht.hb.cell 0
   have HW := hZ0 hw;clear hw ht hg
   go_wp2_with fail
   clear d0 q1
   refine HW.out.mono ?_
   rintro e w4 ⟨⟨z,rfl⟩,X3,ht3⟩
   have HT3 := hZ0 ht3;clear ht3
   go_wp2_with fail
   go_roundw
   case rel => exact ⟨i + 1,X3,by omega,by go_num,HT3.out⟩
   case measure => simp [intOf];omega
  ·obtain rfl : i = G.length := by omega
   rw [HT1.out] at ht
   obtain ⟨wb,q4,hwt⟩ := HWAT.out wr X2 _ _ _ _ _ ht
   have q1 : wr.cell? ⟨bx,0,none⟩ = some (.pointer (some ⟨X.mb,0,none⟩)) := ht.hb.cell 0
   have HWT := hZ0 hwt;clear hwt ht
   go_wp2_with fail
   clear q1 q4
   refine HWT.out.mono ?_
   rintro e w4 ⟨⟨z,rfl⟩,X3,ht3⟩
   have q1 : w4.cell? ⟨bx,0,none⟩ = some (.pointer (some ⟨X.mb,0,none⟩)) := ht3.hb.cell 0
   have HN := hZ0 (HNEXT.out _ _ _ _ _ _ _ ht3);clear ht3
   go_wp2_with fail
   clear q1
   refine HN.out.mono ?_
   rintro e w5 ⟨rfl,X4,ht4⟩
   have q1 : w5.cell? ⟨bx,0,none⟩ = some (.pointer (some ⟨X.mb,0,none⟩)) := ht4.hb.cell 0
   have HH := hZ0 (HHOR.out _ _ _ _ _ _ _ ht4);clear ht4
   go_wp2_with fail
   clear q1
   refine HH.out.mono ?_
   rintro e w6 ⟨rfl,X5,ht5⟩
   have q1 : w6.cell? ⟨bx,0,none⟩ = some (.pointer (some ⟨X.mb,0,none⟩)) := ht5.hb.cell 0
   obtain ⟨sb,q2,hcf⟩ := HCONF.out _ _ _ _ _ _ _ ht5
   have HCF := hZ0 hcf;clear hcf ht5
   go_wp2_with fail
   clear q1 q2
   refine HCF.out.mono ?_
   rintro e w7 ⟨A7,c7,rfl,ht7⟩
   have HT7 := hZ0 ht7;clear ht7
   go_wp2_with fail
   go_loopw [9,52] (fun v9 v52 wr => ∃ (i : Nat) (X2 : MX),i <= ms.length /\ v52 = .int .i64 i /\ Tk w X M (c + 5) bx (.pointer (some ⟨X.mb,0,none⟩)) 53 2 ms.length (.slice A7 ms.length c7) (mcells ms) wr X2 (tellN M3 (ms.take i))) (fun _ v52 _ => ms.length - (intOf v52).toNat)
   case atStart => exact ⟨0,X5,Nat.zero_le _,rfl,HT7.out⟩
   case round =>
    obtain ⟨i,X6,hi,rfl,ht⟩ := hrel
    have hm4 : ms.length <= 4 := HM4.out
    by_cases hil : i < ms.length
    ·obtain ⟨m,hm⟩ : ∃ m,ms[i]? = some m := ⟨_,List.getElem?_eq_getElem hil⟩
     obtain ⟨ad,rfl,had,d0,d1⟩ := mem_cells (Src.of_own ht.hr) (by omega) i m hm
     obtain ⟨W8,hW8⟩ : ∃ W8,wr.alloc (.cells #[.int .i64 m.1,.int .i64 m.2] 53) = W8 := ⟨_,rfl⟩
     have hk8 : Kept NoF wr W8 := by rw [<- hW8];(repeat' (first | (with_reducible first | exact kR0 | apply kP0 | apply kN0 | apply kD0 | apply kA0) | (right;simp;done)))
     have hn8 : Has W8 wr.heap.size 53 #[.int .i64 m.1,.int .i64 m.2] := by rw [<- hW8];exact Has.new _ _ _
     have p0 : W8.cell? ⟨wr.heap.size,0,none⟩ = some (.int .i64 m.1) := hn8.cell 0
     have p1 : W8.cell? ⟨wr.heap.size,1,none⟩ = some (.int .i64 m.2) := hn8.cell 1
     have ht8 := ht.quiet hk8
     have htl := HTELL.out W8 X6 i m _ _ _ _ _ ht8 hm
     obtain ⟨m1,m2⟩ := m
     dsimp only at hW8 p0 p1 d0 d1
     have HTL := hZ0 htl;clear htl ht8 ht hk8 hn8 hm
     go_wp2_with fail
     clear d0 d1 p0 p1 hW8
     refine HTL.out.mono ?_
     rintro e w9 ⟨rfl,X7,ht9⟩
     have HT9 := hZ0 ht9;clear ht9
     go_wp2_with fail
     go_roundw
     case rel => exact ⟨i + 1,X7,by omega,by go_num,HT9.out⟩
     case measure => simp [intOf];omega
    ·obtain rfl : i = ms.length := by omega
     rw [HT4.out] at ht
     have q1 : wr.cell? ⟨bx,0,none⟩ = some (.pointer (some ⟨X.mb,0,none⟩)) := ht.hb.cell 0
     have HD := hZ0 (HDONE.out _ _ _ _ _ _ _ ht);clear ht
     go_wp2_with fail
     clear q1
     refine HD.out.mono ?_
     rintro e w9 ⟨A9,d9,rfl,hp⟩
     have HP := hZ0 hp;clear hp
     go_wp2
     go_ret
     exact ⟨A9,d9,rfl,HP.out⟩
end
end Mas
end Go.Proofs.YtolkgbafebehfaaGreat

/- Part 41 of what the proof needs. -/
import Derived.Test.YtolkgbafebehfaaGreatHP04
import Derived.Test.YtolkgbafebehfaaGreatHP39
set_option linter.unusedSimpArgs false
set_option linter.unusedVariables false
set_option maxHeartbeats 32000000
set_option maxRecDepth 100000
namespace Go.Proofs.YtolkgbafebehfaaGreat
open Go.RowKit
set_option maxRecDepth 100000
namespace Mas
open Plan Vn Mst Wat IM Nte Msg
structure MOk (M : MR) (k : Nat) : Prop where
 st : StOk M.st
 p3 : M.pins.length <= 3
 pin : ∀ p ∈ M.pins,0 <= p.left /\ p.left <= 8 /\ 0 <= p.at' /\ p.at' <= maxTs
 wat : WOk M.ns M.tk
 last : 0 <= M.last /\ M.last <= maxTs
 marks : ∀ i v,M.marks i = some v -> 0 <= v /\ v <= maxTs
 serial : ∀ i v,M.serial i = some v -> I64 v
 cnt : M.cnt <= 8 * k
theorem MOk.mono {M : MR} {k j : Nat} (h : MOk M k) (hj : k <= j) : MOk M j := ⟨h.st,h.p3,h.pin,h.wat,h.last,h.marks,h.serial,by have := h.cnt;omega⟩
def joinM (M : MR) (id : Int) : MR := if 0 <= id /\ id < 4 /\ anyId M.st.ms id = false then { M with joins := fun y => decide (y = id) || M.joins y,serial := fput M.serial id none,cnt := M.cnt + 1 } else M
def leaveM (M : MR) (id : Int) : MR := if 0 <= id /\ id < 4 /\ anyId M.st.ms id = true then { M with leaves := fun y => decide (y = id) || M.leaves y,cnt := M.cnt + 1 } else M
section
variable {w w' : World} {X X0 : MX} {M M0 : MR} {c k : Nat}
theorem i64_small {i : Int} (h0 : 0 <= i) (h1 : i < 4) : I64 i := Disk.i64_small h0 (by omega)
theorem mjoin_any (h : MAt w X M) (hb : LgB X M.lg c) (hm : MOk M k) (hk : k <= 1000) (id : Int) :
  Calls Tryz.prog 23 #[.pointer (some ⟨X.mb,0,none⟩),.int .i64 id] w (MPost w X M c (.bool (decide (0 <= id /\ id < 4 /\ anyId M.st.ms id = false))) (joinM M id) 0) := by
 have h1 := mnone_any h
 have h2 := replica_any w id
 have h3 := member_any h hm.st.inv.ok id
 have hq : ∀ W,Kept NoF w W -> W.cell? ⟨X.mb,8,none⟩ = some (.map (some X.jo)) /\ W.cell? ⟨X.mb,6,none⟩ = some (.map (some X.se)) := fun W hW => ⟨(h.quiet hW).cell (i := 8) rfl,(h.quiet hW).cell (i := 6) rfl⟩
 have hbad : ¬ (0 <= id /\ id < 4 /\ anyId M.st.ms id = false) -> ∀ W,Kept NoF w W -> MPost w X M c (.bool (decide (0 <= id /\ id < 4 /\ anyId M.st.ms id = false))) (joinM M id) 0 (.returned (.bool false)) W := fun hn W hW => by
  unfold joinM
  rw [if_neg hn,decide_eq_false hn]
  exact ⟨rfl,X,Step.refl h hW,hb⟩
 have hgood : (0 <= id /\ id < 4 /\ anyId M.st.ms id = false) -> ∀ W,Kept NoF w W -> ∃ W1,(Instr.mapUpdate 62 (.map (some X.jo)) (.int .i64 id) (.bool true)).run Tryz.prog W = .ok () W1 /\ W1.cell? ⟨X.mb,6,none⟩ = some (.map (some X.se)) /\ ∀ ty,∃ W2,(Builtin.delete_ #[61,3] ty #[.map (some X.se),.int .i64 id]).run Tryz.prog W1 = .ok (.tuple #[]) W2 /\ MPost w X M c (.bool (decide (0 <= id /\ id < 4 /\ anyId M.st.ms id = false))) (joinM M id) 0 (.returned (.bool true)) W2 := fun hn W hW => by
  have hi := i64_small hn.1 hn.2.1
  have hs0 := Step.refl h hW
  have hcj : SetIs W X.jo M.cnt M.joins := (h.quiet hW).c 7
  have hct := hm.cnt
  obtain ⟨W1,hr1,hs1,hk1⟩ := SetIs.store hcj (by unfold maxLen;omega) hi
  have st1 := hs0.trans (MAt.setJoins hs0.at' hs1 (Nat.le_succ _) hk1)
  have hcs : IMap .i64 3 W1 X.se (M.cnt + 1) M.serial := st1.at'.c 6
  refine ⟨W1,hr1,st1.at'.cell (i := 6) rfl,fun ty => ?_⟩
  obtain ⟨W2,hr2,hs2,hk2⟩ := IMap.drop hcs Tryz.underlying61 hi ty
  have st2 := st1.trans (MAt.setSerial st1.at' hs2 (Nat.le_refl _) hk2)
  refine ⟨W2,hr2,?_⟩
  unfold joinM
  rw [if_pos hn,decide_eq_true hn]
  exact ⟨rfl,X,st2,hb⟩
 have H1 := hZ0 h1;have H2 := hZ0 h2;have H3 := hZ0 h3;have HQ := hZ0 hq;have HB := hZ0 hbad;have HG := hZ0 hgood
 clear h h1 h2 h3 hq hbad hgood hb hm hk
 obtain ⟨P,hP⟩ : ∃ P : Prop,P = (0 <= id /\ id < 4 /\ anyId M.st.ms id = false) := ⟨_,rfl⟩
 obtain ⟨r,hr⟩ : ∃ r : Bool,decide (0 <= id /\ id < 4) = r := ⟨_,rfl⟩
 obtain ⟨b,hbb⟩ : ∃ b : Bool,anyId M.st.ms id = b := ⟨_,rfl⟩
 have hin : r = true -> b = false -> (0 <= id /\ id < 4 /\ anyId M.st.ms id = false) := fun h1 h2 => by
  rw [h1] at hr;rw [h2] at hbb
  have := of_decide_eq_true hr
  exact ⟨this.1,this.2,hbb⟩
 have hout : r = false \/ b = true -> ¬ (0 <= id /\ id < 4 /\ anyId M.st.ms id = false) := fun h1 h2 => by
  rcases h1 with h1 | h1
  ·rw [h1] at hr;exact absurd ⟨h2.1,h2.2.1⟩ (of_decide_eq_false hr)
  ·rw [hbb,h1] at h2;exact absurd h2.2.2 (by decide)
 rw [hr] at H2;rw [hbb] at H3
 have HIN := hZ0 hin;have HOUT := hZ0 hout;clear hin hout hr hbb hP P
 cases r
 ·have HF := hZ0 (HB.out (HOUT.out (.inl rfl)) w (Kept.refl _ _))
  generalize MPost w X M c (.bool (decide (0 <= id /\ id < 4 /\ anyId M.st.ms id = false))) (joinM M id) 0 = Q at *
  go_enter Tryz.func23,Tryz.ntmps23
  go_wp2_with fail
  refine H1.out.mono ?_
  rintro e w1 ⟨rfl,rfl⟩
  go_wp2_with fail
  refine H2.out.mono ?_
  rintro e w1 ⟨rfl,rfl⟩
  go_wp2
  exact HF.out
 ·cases b
  ·have hg := HG.out (HIN.out rfl rfl)
   have HGG := hZ0 hg;clear hg
   generalize MPost w X M c (.bool (decide (0 <= id /\ id < 4 /\ anyId M.st.ms id = false))) (joinM M id) 0 = Q at *
   go_enter Tryz.func23,Tryz.ntmps23
   go_wp2_with fail
   refine H1.out.mono ?_
   rintro e w1 ⟨rfl,rfl⟩
   go_wp2_with fail
   refine H2.out.mono ?_
   rintro e w1 ⟨rfl,rfl⟩
   go_wp2_with fail
   refine H3.out.mono ?_
   rintro e w2 ⟨rfl,hk2⟩
   obtain ⟨q8,q6⟩ := HQ.out _ hk2
   obtain ⟨W1,hr1,q6',hd⟩ := HGG.out _ hk2
   obtain ⟨W2,hd2⟩ := Classical.axiomOfChoice hd
   have hr2 := fun ty => (hd2 ty).1
   have HF := hZ0 (fun ty => (hd2 ty).2)
   clear hk2 hd hd2
   go_wp2
   exact HF.out _
  ·have HF := hZ0 (HB.out (HOUT.out (.inr rfl)))
   generalize MPost w X M c (.bool (decide (0 <= id /\ id < 4 /\ anyId M.st.ms id = false))) (joinM M id) 0 = Q at *
   go_enter Tryz.func23,Tryz.ntmps23
   go_wp2_with fail
   refine H1.out.mono ?_
   rintro e w1 ⟨rfl,rfl⟩
   go_wp2_with fail
   refine H2.out.mono ?_
   rintro e w1 ⟨rfl,rfl⟩
   go_wp2_with fail
   refine H3.out.mono ?_
   rintro e w2 ⟨rfl,hk2⟩
   have HG2 := hZ0 (HF.out _ hk2)
   clear hk2
   go_wp2
   exact HG2.out
theorem mleave_any (h : MAt w X M) (hb : LgB X M.lg c) (hm : MOk M k) (hk : k <= 1000) (id : Int) :
  Calls Tryz.prog 24 #[.pointer (some ⟨X.mb,0,none⟩),.int .i64 id] w (MPost w X M c (.bool (decide (0 <= id /\ id < 4 /\ anyId M.st.ms id = true))) (leaveM M id) 0) := by
 have h1 := mnone_any h
 have h2 := replica_any w id
 have h3 := member_any h hm.st.inv.ok id
 have hq : ∀ W,Kept NoF w W -> W.cell? ⟨X.mb,9,none⟩ = some (.map (some X.le)) := fun W hW => (h.quiet hW).cell (i := 9) rfl
 have hbad : ¬ (0 <= id /\ id < 4 /\ anyId M.st.ms id = true) -> ∀ W,Kept NoF w W -> MPost w X M c (.bool (decide (0 <= id /\ id < 4 /\ anyId M.st.ms id = true))) (leaveM M id) 0 (.returned (.bool false)) W := fun hn W hW => by
  unfold leaveM
  rw [if_neg hn,decide_eq_false hn]
  exact ⟨rfl,X,Step.refl h hW,hb⟩
 have hgood : (0 <= id /\ id < 4 /\ anyId M.st.ms id = true) -> ∀ W,Kept NoF w W -> ∃ W1,(Instr.mapUpdate 62 (.map (some X.le)) (.int .i64 id) (.bool true)).run Tryz.prog W = .ok () W1 /\ MPost w X M c (.bool (decide (0 <= id /\ id < 4 /\ anyId M.st.ms id = true))) (leaveM M id) 0 (.returned (.bool true)) W1 := fun hn W hW => by
  have hi := i64_small hn.1 hn.2.1
  have hs0 := Step.refl h hW
  have hcj : SetIs W X.le M.cnt M.leaves := (h.quiet hW).c 8
  have hct := hm.cnt
  obtain ⟨W1,hr1,hs1,hk1⟩ := SetIs.store hcj (by unfold maxLen;omega) hi
  have st1 := hs0.trans (MAt.setLeaves hs0.at' hs1 (Nat.le_succ _) hk1)
  refine ⟨W1,hr1,?_⟩
  unfold leaveM
  rw [if_pos hn,decide_eq_true hn]
  exact ⟨rfl,X,st1,hb⟩
 have H1 := hZ0 h1;have H2 := hZ0 h2;have H3 := hZ0 h3;have HQ := hZ0 hq;have HB := hZ0 hbad;have HG := hZ0 hgood
 clear h h1 h2 h3 hq hbad hgood hb hm hk
 obtain ⟨P,hP⟩ : ∃ P : Prop,P = (0 <= id /\ id < 4 /\ anyId M.st.ms id = true) := ⟨_,rfl⟩
 obtain ⟨r,hr⟩ : ∃ r : Bool,decide (0 <= id /\ id < 4) = r := ⟨_,rfl⟩
 obtain ⟨b,hbb⟩ : ∃ b : Bool,anyId M.st.ms id = b := ⟨_,rfl⟩
 have hin : r = true -> b = true -> (0 <= id /\ id < 4 /\ anyId M.st.ms id = true) := fun h1 h2 => by
  rw [h1] at hr;rw [h2] at hbb
  have := of_decide_eq_true hr
  exact ⟨this.1,this.2,hbb⟩
 have hout : r = false \/ b = false -> ¬ (0 <= id /\ id < 4 /\ anyId M.st.ms id = true) := fun h1 h2 => by
  rcases h1 with h1 | h1
  ·rw [h1] at hr;exact absurd ⟨h2.1,h2.2.1⟩ (of_decide_eq_false hr)
  ·rw [hbb,h1] at h2;exact absurd h2.2.2 (by decide)
 rw [hr] at H2;rw [hbb] at H3
 have HIN := hZ0 hin;have HOUT := hZ0 hout;clear hin hout hr hbb hP P
 cases r
 ·have HF := hZ0 (HB.out (HOUT.out (.inl rfl)) w (Kept.refl _ _))
  generalize MPost w X M c (.bool (decide (0 <= id /\ id < 4 /\ anyId M.st.ms id = true))) (leaveM M id) 0 = Q at *
  go_enter Tryz.func24,Tryz.ntmps24
  go_wp2_with fail
  refine H1.out.mono ?_
  rintro e w1 ⟨rfl,rfl⟩
  go_wp2_with fail
  refine H2.out.mono ?_
  rintro e w1 ⟨rfl,rfl⟩
  go_wp2
  exact HF.out
 ·cases b
  rotate_left
  ·have hg := HG.out (HIN.out rfl rfl)
   have HGG := hZ0 hg;clear hg
   generalize MPost w X M c (.bool (decide (0 <= id /\ id < 4 /\ anyId M.st.ms id = true))) (leaveM M id) 0 = Q at *
   go_enter Tryz.func24,Tryz.ntmps24
   go_wp2_with fail
   refine H1.out.mono ?_
   rintro e w1 ⟨rfl,rfl⟩
   go_wp2_with fail
   refine H2.out.mono ?_
   rintro e w1 ⟨rfl,rfl⟩
   go_wp2_with fail
   refine H3.out.mono ?_
   rintro e w2 ⟨rfl,hk2⟩
   have q8 := HQ.out _ hk2
   obtain ⟨W1,hr1,hf⟩ := HGG.out _ hk2
   have HF := hZ0 hf
   clear hk2 hf
   go_wp2
   exact HF.out
  ·have HF := hZ0 (HB.out (HOUT.out (.inr rfl)))
   generalize MPost w X M c (.bool (decide (0 <= id /\ id < 4 /\ anyId M.st.ms id = true))) (leaveM M id) 0 = Q at *
   go_enter Tryz.func24,Tryz.ntmps24
   go_wp2_with fail
   refine H1.out.mono ?_
   rintro e w1 ⟨rfl,rfl⟩
   go_wp2_with fail
   refine H2.out.mono ?_
   rintro e w1 ⟨rfl,rfl⟩
   go_wp2_with fail
   refine H3.out.mono ?_
   rintro e w2 ⟨rfl,hk2⟩
   have HG2 := hZ0 (HF.out _ hk2)
   clear hk2
   go_wp2
   exact HG2.out
theorem MOk.join (h : MOk M k) (id : Int) : MOk (joinM M id) (k + 1) := by
 unfold joinM
 split
 ·refine ⟨h.st,h.p3,h.pin,h.wat,h.last,h.marks,fun i v hv => ?_,by have := h.cnt;dsimp only;omega⟩
  simp only [fput] at hv
  split at hv
  ·cases hv
  ·exact h.serial i v hv
 ·exact h.mono (by omega)
theorem MOk.leave (h : MOk M k) (id : Int) : MOk (leaveM M id) (k + 1) := by
 unfold leaveM
 split
 ·exact ⟨h.st,h.p3,h.pin,h.wat,h.last,h.marks,h.serial,by have := h.cnt;dsimp only;omega⟩
 ·exact h.mono (by omega)
end
end Mas
namespace Plan
theorem pplace_any (w : World) (ep fl : Int) (A : Option Addr) (c : Nat) (l : List Mem) (x : Mem) (hl : Src w 2 A l.length (mcells l)) (hlen : l.length <= 1000000) :
  Calls Tryz.prog 140 #[cagg ep A l.length c fl,magg x] w fun e w' => (∃ n : Int,e = .returned (.int .i64 n) /\ (0 <= n ↔ x ∈ l) /\ (n = -1 \/ 0 <= n)) /\ Kept NoF w w' := by
 have HL := hZ0 hl;clear hl
 obtain ⟨x1,x2⟩ := x
 have hn1 := (Has.new w 25 #[.int .i64 ep,.slice A l.length c,.int .u64 fl]).alloc (.cells #[.int .i64 x1,.int .i64 x2] 53)
 have hn2 := Has.new (w.alloc (.cells #[.int .i64 ep,.slice A l.length c,.int .u64 fl] 25)) 53 #[.int .i64 x1,.int .i64 x2]
 rw [size_alloc] at hn2
 have c0 := hn1.cell 1
 simp only [List.getElem?_toArray,List.getElem?_cons_zero,List.getElem?_cons_succ] at c0
 have HN2 := hZ0 hn2;clear hn2 hn1
 unfold magg
 dsimp only
 go_enter Tryz.func140,Tryz.ntmps140
 go_wp2_with fail
 go_loopw [5,10] (fun v5 v10 wr => ∃ i : Nat,i <= l.length /\ v10 = .int .i64 i /\ Has wr (w.heap.size + 1) 53 #[.int .i64 x1,.int .i64 x2] /\ Kept NoF w wr /\ ((x1,x2) ∈ l ↔ (x1,x2) ∈ l.drop i)) (fun _ v10 _ => l.length - (intOf v10).toNat)
 case atStart => exact ⟨0,Nat.zero_le _,rfl,HN2.out,((Kept.refl _ _).alloc _).alloc _,Iff.rfl⟩
 case round =>
  obtain ⟨i,hi,rfl,hh2,hk,he⟩ := hrel
  have e1 : ∀ o,(wr.alloc o).cell? ⟨w.heap.size + 1,0,none⟩ = some (.int .i64 x1) := fun o => (hh2.alloc o).cell 0
  have e2 : ∀ o,(wr.alloc o).cell? ⟨w.heap.size + 1,1,none⟩ = some (.int .i64 x2) := fun o => (hh2.alloc o).cell 1
  have HH2 := hZ0 hh2;clear hh2
  have HK := hZ0 hk;clear hk
  have HE := hZ0 he;clear he
  by_cases hil : i < l.length
  ·obtain ⟨m,hm⟩ : ∃ m,l[i]? = some m := ⟨_,List.getElem?_eq_getElem hil⟩
   obtain ⟨ad,hA,had,d0,d1⟩ := mem_cells (HL.out.kept HK.out (fun _ _ x => x)) (by omega) i m hm
   subst hA
   have hs : (x1,x2) ∈ l.drop i ↔ m = (x1,x2) \/ (x1,x2) ∈ l.drop (i + 1) := by rw [drop_cons hm,List.mem_cons,eq_comm]
   have heql := run_eql_mem m (x1,x2)
   obtain ⟨b,hb⟩ : ∃ b : Bool,b = decide (m = (x1,x2)) := ⟨_,rfl⟩
   rw [<- hb] at heql
   have HB := hZ0 hb;clear hb
   have HS := hZ0 hs;clear hs hm
   obtain ⟨m1,m2⟩ := m
   unfold magg at heql
   dsimp only at d0 d1 heql
   cases b
   ·go_wp2_with fail
    go_roundw
    case rel => exact ⟨i + 1,by omega,by go_num,HH2.out.alloc _,HK.out.alloc _,by rw [HE.out,HS.out];have := HB.out;simp at this;simp;omega⟩
    case measure => simp [intOf];omega
   ·go_wp2_with fail
    go_ret
    exact ⟨⟨_,rfl,⟨fun _ => by rw [HE.out,HS.out];have := HB.out;simp at this;exact .inl (by simp [this]),fun _ => by omega⟩,.inr (by omega)⟩,HK.out.alloc _⟩
  ·obtain rfl : i = l.length := by omega
   go_wp2
   go_ret
   exact ⟨⟨-1,rfl,⟨fun h => by omega,fun h => by rw [HE.out,List.drop_length] at h;cases h⟩,.inl rfl⟩,HK.out⟩
end Plan
end Go.Proofs.YtolkgbafebehfaaGreat

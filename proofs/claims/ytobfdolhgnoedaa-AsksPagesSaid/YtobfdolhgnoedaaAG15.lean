/- Part 16 of what the proof needs. -/
import Derived.Test.YtobfdolhgnoedaaAG01
import Derived.Test.YtobfdolhgnoedaaAG02
import Derived.Test.YtobfdolhgnoedaaAG03
import Derived.Deep.RegionHeld3
import Derived.Deep.DeepFit
import Derived.Laws.IdiomStrings
import Derived.WalkKit
import Derived.WalkSpells
import Derived.WalkLawsBesides
import Derived.Lib.Hide
import Derived.Lib.SlBytesRow
import Derived.BigQuiet
import Derived.Deep.QuietTactic
import Derived.BigRegion
import Derived.Deep.RegionLaw
import Derived.StillTailTactics
set_option linter.unusedSimpArgs false
set_option linter.unusedVariables false
set_option maxHeartbeats 32000000
set_option maxRecDepth 100000
namespace Go.Proofs.Ytobfdolhgnoedaa
open Go.RowKit
set_option maxRecDepth 100000
namespace Keys
abbrev strs (l : List ByteArray) : List Value := l.map Value.string
def bl (l : List ByteArray) : List BL := l.map ByteArray.toList
theorem str_cells {w : World} {A : Option Addr} {m : Nat} {l : List ByteArray} (h : Src w 1 A m (strs l)) (hm : 0 < m) (i : Nat) (s : ByteArray) (hs : l[i]? = some s) :
  ∃ ad,A = some ad /\ ad.block < w.heap.size /\ w.cell? (ad.add i) = some (.string s) := by
 obtain ⟨ad,rfl,had,hcell⟩ := h.2 hm
 exact ⟨ad,rfl,had,hcell i _ (by simp [strs,hs])⟩
theorem elemStr : Elem Try.prog 99 9 1 16 := by
 obtain ⟨i0,hi,hz0,hz1,hz2⟩ := info_parts (show (Try.prog.info? 9).map (fun i => (i.zero,i.size,i.bytes)) = some (some (.string ⟨#[]⟩),1,16) by kernel_rfl)
 exact ⟨Try.underlying99,⟨i0,_,hi,hz0,hz1,hz2,rfl⟩,by decide⟩
def setB (l : List ByteArray) : List ByteArray := (setL (bl l)).map fun x => ⟨x.toArray⟩
theorem bl_snoc {l : List ByteArray} {i : Nat} {s : ByteArray} (h : l[i]? = some s) : bl (l.take (i + 1)) = bl (l.take i) ++ [s.toList] := by
 unfold bl
 rw [List.take_add_one,h]
 simp
theorem less_total (x y : List UInt8) (h : Op.bytesLess x y = false) (hne : x ≠ y) : Op.bytesLess y x = true := by
 induction x generalizing y with
 | nil => cases y with
  | nil => exact absurd rfl hne
  | cons b y => simp [Op.bytesLess] at h
 | cons a x ih => cases y with
  | nil => rfl
  | cons b y =>
   simp only [Op.bytesLess,Bool.or_eq_false_iff,Bool.and_eq_false_iff,decide_eq_false_iff_not,beq_eq_false_iff_ne] at h
   simp only [Op.bytesLess,Bool.or_eq_true,Bool.and_eq_true,decide_eq_true_eq,beq_iff_eq]
   obtain ⟨h1,h2⟩ := h
   by_cases e : a = b
   ·subst e
    rcases h2 with h2 | h2
    ·exact absurd rfl h2
    ·exact .inr ⟨rfl,ih y h2 (fun e => hne (by rw [e]))⟩
   ·rw [UInt8.lt_iff_toNat_lt] at *
    have : a.toNat ≠ b.toNat := fun k => e (UInt8.toNat_inj.1 k)
    exact .inl (by omega)
def insB (rb : List ByteArray) (k : Nat) (s : ByteArray) : List ByteArray := rb.take k ++ s :: rb.drop k
theorem bl_ins (rb : List ByteArray) (k : Nat) (s : ByteArray) : bl (insB rb k s) = (bl rb).take k ++ s.toList :: (bl rb).drop k := by simp [insB,bl,List.map_take,List.map_drop]
theorem insB_len (rb : List ByteArray) (k : Nat) (s : ByteArray) : (insB rb k s).length = rb.length + 1 := by simp [insB];omega
theorem strs_one (l : List ByteArray) : ∀ u ∈ strs l,u.oneCell' = true := by
 intro u hu
 obtain ⟨x,_,rfl⟩ := List.mem_map.1 hu
 rfl
theorem lt_of_less {a b : ByteArray} (h : Op.bytesLess a.toList b.toList = true) : a.toList < b.toList := by rw [bytesLess_eq] at h;simpa using h
theorem lt_of_not {a b : ByteArray} (h : Op.bytesLess a.toList b.toList = false) (hne : a.toList ≠ b.toList) : b.toList < a.toList := by
 have := less_total _ _ h hne
 rw [bytesLess_eq] at this
 simpa using this
theorem rset_any (w : World) (A : Option Addr) (c : Nat) (l : List ByteArray) (hl : Src w 1 A l.length (strs l)) (hlen : l.length <= 1000) :
  Calls Try.prog 43 #[.slice A l.length c] w fun e w' => ∃ A' c',e = .returned (.slice A' (setB l).length c') /\ w'.ownsRow 0 9 1 (.slice A' (setB l).length c') (setB l).length (strs (setB l)) /\ (∀ k,(Value.slice A' (setB l).length c').ownBlock = some k -> w.heap.size <= k) /\ Below w.heap.size w w' := by
 have HL := hZ0 hl;clear hl
 go_enter Try.func43,Try.ntmps43
 go_wp2_with fail
 go_loopw [3,4,5,6] (fun v3 v4 v5 v6 wr => ∃ (i : Nat) (rb : List ByteArray) (R : Option Addr) (rc : Nat),i <= l.length /\ v4 = .int .i64 i /\ v3 = .slice R rb.length rc /\ rb.length <= i /\ wr.ownsRow 0 9 1 (.slice R rb.length rc) rb.length (strs rb) /\ (bl rb).Pairwise (· < ·) /\ (∀ y,y ∈ bl rb ↔ y ∈ bl (l.take i)) /\ (∀ k,(Value.slice R rb.length rc).ownBlock = some k -> w.heap.size <= k) /\ Below w.heap.size w wr) (fun _ v4 _ _ _ => l.length - (intOf v4).toNat)
 case atStart => exact ⟨0,[],none,0,Nat.zero_le _,rfl,rfl,Nat.le_refl _,⟨rfl,.inl ⟨rfl,rfl⟩⟩,List.Pairwise.nil,fun y => by simp [bl],(fun k hk => by cases hk),Below.refl _ _⟩
 case round =>
  obtain ⟨i,rb,R,rc,hi,rfl,rfl,hrl,hrow,hpw,hmem,hnew,hB⟩ := hrel
  have HB := hZ0 hB;clear hB
  have HROW := hZ0 hrow;clear hrow
  have HPW := hZ0 hpw;clear hpw
  have HMEM := hZ0 hmem;clear hmem
  have HNEW := hZ0 hnew;clear hnew
  have hsz := HB.out.size
  have hcap := own_cap HROW.out
  by_cases hil : i < l.length
  ·obtain ⟨s,hs⟩ : ∃ s,l[i]? = some s := ⟨_,List.getElem?_eq_getElem hil⟩
   obtain ⟨ad,rfl,hadl,e00⟩ := str_cells HL.out (by omega) i s hs
   have hcell : ∀ W,Below w.heap.size w W -> W.cell? (ad.add i) = some (.string s) := fun W hW => (hW.cell (p := ad.add i) (by rw [block_add];exact hadl)).trans e00
   have HC := hZ0 hcell;clear hcell e00
   have HSN := hZ0 (bl_snoc hs);clear hs
   obtain ⟨wo,hwo⟩ : ∃ wo : World,wo = wr := ⟨_,rfl⟩
   subst hwo
   go_wp2_with fail
   go_loopw [5] (fun v5 wq => ∃ k : Nat,k <= rb.length /\ v5 = .int .i64 k /\ (∀ (j : Nat) (p : BL),j < k -> (bl rb)[j]? = some p -> p < s.toList) /\ Kept NoF wo wq) (fun v5 _ => rb.length - (intOf v5).toNat)
   case atStart => exact ⟨0,Nat.zero_le _,rfl,(fun j p hj => by omega),Kept.refl _ _⟩
   case round =>
    obtain ⟨k,hk,rfl,hall,hkq⟩ := hrel
    have HALL := hZ0 hall;clear hall
    have hBq : Below w.heap.size w wr := HB.out.trans (hkq.below hsz (fun _ x => x.elim))
    have e0 := HC.out wr hBq
    by_cases hkl : k < rb.length
    ·obtain ⟨q,hq⟩ : ∃ q,rb[k]? = some q := ⟨_,List.getElem?_eq_getElem hkl⟩
     obtain ⟨td,rfl,-,e1⟩ := str_cells ((Src.of_own HROW.out).kept hkq (fun _ _ x => x)) (by omega) k q hq
     have hqb : (bl rb)[k]? = some q.toList := by simp [bl,hq]
     by_cases hlt2 : Op.bytesLess q.toList s.toList = true
     ·have hall2 : ∀ (j : Nat) (p : BL),j < k + 1 -> (bl rb)[j]? = some p -> p < s.toList := by
       intro j p hj hp
       by_cases e : j = k
       ·subst e
        rw [hqb] at hp
        injection hp with hp
        rw [<- hp]
        exact lt_of_less hlt2
       ·exact HALL.out j p (by omega) hp
      have HALL2 := hZ0 hall2;clear hall2 hqb hq
      go_wp2_with fail
      go_quiet (fail)
      go_wp2
      go_roundw
      case rel => exact ⟨k + 1,by omega,by go_num,HALL2.out,hkq.drewN _⟩
      case measure => simp [intOf];omega
     ·have hlt3 : Op.bytesLess q.toList s.toList = false := by simpa using hlt2
      clear hlt2
      go_wp2_with fail
      go_quiet (fail)
      go_wp2_with fail
      by_cases heq : q.toList = s.toList
      ·have hb1 : (q.toList == s.toList) = true := by simp [heq]
       go_quiet (fail)
       go_wp2_with fail
       go_roundw
       case rel => exact ⟨i + 1,rb,some td,rc,by omega,by go_num,rfl,by omega,own_kept HROW.out (hkq.drewN _) (fun _ _ x => x),HPW.out,fun y => by rw [HSN.out,HMEM.out y,List.mem_append,List.mem_singleton];exact ⟨.inl,fun h => h.elim id (fun h => (HMEM.out y).1 (by rw [h,<- heq];exact List.mem_of_getElem? hqb))⟩,HNEW.out,hBq.trans (((Kept.refl NoF wr).drewN _).below (by have := hBq.size;omega) (fun _ x => x.elim))⟩
       case measure => simp [intOf];omega
      ·have hb1 : (q.toList == s.toList) = false := by simpa using heq
       have h2 : ∀ p,(bl rb)[k]? = some p -> s.toList < p := fun p hp => by
        rw [hqb] at hp
        injection hp with hp
        rw [<- hp]
        exact lt_of_not hlt3 heq
       have H2 := hZ0 h2;clear h2
       go_quiet (fail)
       go_wp2_with fail
       generalize hw0 : World.drewN wr _ = w0
       have hk0 : Kept NoF wr w0 := by rw [<- hw0];exact (Kept.refl _ _).drewN _
       clear hw0
       have hkw := hkq.then hk0
       have hB0 : Below w.heap.size w w0 := HB.out.trans (hkw.below hsz (fun _ x => x.elim))
       have hz0 := hB0.size
       have hc0 : ∀ W,Kept NoF w0 W -> W.cell? (ad.add i) = some (.string s) := fun W hW => HC.out W (hB0.trans (hW.below hz0 (fun _ x => x.elim)))
       have e5 := hc0 w0 (Kept.refl _ _)
       have HC0 := hZ0 hc0;clear hc0
       have e6 : ∀ (n : Nat) (o : Obj),((w0.drewN n).alloc o).cell? (ad.add i) = some (.string s) := fun n o => HC0.out _ (((Kept.refl _ _).drewN n).alloc o)
       have hsrc := (Src.of_own HROW.out).kept hkw (fun _ _ x => x)
       have sr1 : ∀ W,Kept NoF w0 W -> Src W 1 (some td) k (strs (rb.take k)) := fun W hW => by
        have := (hsrc.kept hW (fun _ _ x => x)).take hk
        rw [Nat.mul_one,<- List.map_take] at this
        exact this
       have SR1 := hZ0 sr1;clear sr1
       have sr2 : ∀ W,Kept NoF w0 W -> Src W 1 (if rc = k then (some td) else Option.map (fun ad : Addr => ad.add k) (some td)) (rb.length - k) (strs (rb.drop k)) := fun W hW => by
        have := (hsrc.kept hW (fun _ _ x => x)).drop (cap := rc) hk hcap.1
        simp only [Nat.mul_one] at this
        rw [<- List.map_drop] at this
        exact this
       have SR2 := hZ0 sr2;clear sr2 hsrc
       have HM0 : Hid (0 + k <= maxLen) := hZ0 (by unfold maxLen;omega)
       have HY0 : Hid ((0 + k) * 16 <= 140737488355328) := hZ0 (by omega)
       have HM1 : Hid (k + 1 <= maxLen) := hZ0 (by unfold maxLen;omega)
       have HY1 : Hid ((k + 1) * 16 <= 140737488355328) := hZ0 (by omega)
       have HM2 : Hid (k + 1 + (rb.length - k) <= maxLen) := hZ0 (by unfold maxLen;omega)
       have HY2 : Hid ((k + 1 + (rb.length - k)) * 16 <= 140737488355328) := hZ0 (by omega)
       have hI1 : (k : Int) <= (rc : Int) := by have := hcap.1;omega
       clear e0
       go_region_law (first
        | (with_reducible apply step_append_src elemStr (.tmp 45) (.tmp 48) (n := 0) (xs := []) (A := some td) (m := k) (c := rc) (news := strs (rb.take k))
           rfl
           rfl
           exact (rfl : _ = Value.slice (some ⟨_,0,none⟩) 0 0)
           (refine own_empty (cs := #[]) ?_ rfl;(repeat (first | with_reducible exact Has.new_at _ _ _ (by simp) | with_reducible apply Has.drew | with_reducible apply Has.drewN | with_reducible apply Has.alloc | (with_reducible apply Has.past <;> (try omega)) )))
           exact (rfl : _ = Value.slice (some td) k rc)
           (exact SR1.out _ (by (repeat' (first | (with_reducible first | exact kR0 | apply kP0 | apply kN0 | apply kD0 | apply kA0) | (right;simp;done)))))
           exact strs_one _
           exact HM0.out
           exact HY0.out
           intro A1 c1 w1 ho1 hg1 ha1
           have hk1 : Kept NoF w0 w1 := by refine Kept.grown ?_ hg1 ?_;(repeat' (first | (with_reducible first | exact kR0 | apply kP0 | apply kN0 | apply kD0 | apply kA0) | (right;simp;done)));exact fun k hk => .inr (new_row hk (by first | (simp;done) | (simp;omega) | omega))
           have P0 := HC0.out w1 hk1
           have hz1 := hk1.size
           simp only [Nat.zero_add,List.nil_append] at ho1 ha1 ⊢)
        | (with_reducible apply step_append_src elemStr (.tmp 49) (.tmp 54) (n := k) (xs := strs (rb.take k)) (m := 1) (c := 1) (news := [.string s])
           rfl
           rfl
           exact (rfl : _ = Value.slice A1 k c1)
           (refine own_kept ho1 (F := NoF) ?_ (fun _ _ x => x);(repeat' (first | (with_reducible first | exact kR0 | apply kP0 | apply kN0 | apply kD0 | apply kA0) | (right;simp;done))))
           exact (rfl : _ = Value.slice (some ⟨_,0,none⟩) 1 1)
           (refine Src.of_has (t := 9) (cs := #[.string s]) ?_ rfl;(repeat (first | with_reducible exact Has.new_at _ _ _ (by simp) | with_reducible apply Has.drew | with_reducible apply Has.drewN | with_reducible apply Has.alloc | (with_reducible refine Has.grown ?_ hg1 (by simp [Value.ownBlock])))))
           (intro u hu;simp at hu;subst hu;rfl)
           exact HM1.out
           exact HY1.out
           intro A2 c2 w2 ho2 hg2 ha2
           have hk2 : Kept NoF w0 w2 := by refine Kept.grown (Kept.then hk1 ?_) hg2 ?_;(repeat' (first | (with_reducible first | exact kR0 | apply kP0 | apply kN0 | apply kD0 | apply kA0) | (right;simp;done)));exact fun k hk => .inr (new_row2 hk ha1 (by first | (simp;done) | (simp;omega) | omega) (by first | (simp;done) | (simp;omega) | omega))
           have hz2 := hk2.size))
       all_goals
        have hlow : ∀ k',(Value.slice A2 (k + 1) c2).ownBlock = some k' -> w0.heap.size <= k' := fun k' hk' => new_row3 hk' ha2 ha1 (by first | (simp;done) | (simp;omega) | omega) (by first | (simp;done) | (simp;omega) | omega) (by first | (simp;done) | (simp;omega) | omega)
        have HLOW := hZ0 hlow;clear hlow
        have HO2 := hZ0 ho2;clear ho2 ho1 hg1 hg2 ha1 ha2 P0 e5 e6
        have hkL : (k : Int) <= rb.length := by omega
        have hs2 := SR2.out w2 hk2
        by_cases hck : rc = k
        all_goals
         first | rw [if_pos hck] at hs2 | rw [if_neg hck] at hs2
         first | rw [Option.map_some] at hs2 | rw [Option.map_none] at hs2 | skip
         have HS2 := hZ0 hs2;clear hs2
         go_wp2_with (at_builtin;refine list_append_src elemStr (.tmp 56) (.tmp 59) rfl rfl (Value.slice A2 (k + 1) c2) rfl HO2.out _ rfl HS2.out (strs_one _) HM2.out HY2.out ?_;intro A3 c3 w3 ho3 hg3 ha3)
         have hL := insB_len rb k s
         have hL2 : k + 1 + (rb.length - k) = (insB rb k s).length := by rw [hL];omega
         have hk3 : Kept NoF w0 w3 := hk2.grown hg3 (fun k' hk' => .inr (HLOW.out k' hk'))
         have hB3 : Below w.heap.size w w3 := hB0.trans (hk3.below hz0 (fun _ x => x.elim))
         have ho4 : w3.ownsRow 0 9 1 (.slice A3 (insB rb k s).length c3) (insB rb k s).length (strs (insB rb k s)) := by
          rw [<- hL2,show strs (insB rb k s) = strs (rb.take k) ++ [Value.string s] ++ strs (rb.drop k) by simp [insB,strs]]
          exact ho3
         have hn4 : ∀ k',(Value.slice A3 (insB rb k s).length c3).ownBlock = some k' -> w.heap.size <= k' := by
          rw [<- hL2]
          intro k' hk'
          rcases ha3 with h | h
          ·have := HLOW.out k' (h.symm.trans hk');omega
          ·rw [hk'] at h
           injection h with h
           omega
         have hp4 : (bl (insB rb k s)).Pairwise (· < ·) := by rw [bl_ins];exact ins_rises HPW.out HALL.out H2.out
         have hm4 : ∀ y,y ∈ bl (insB rb k s) ↔ y ∈ bl (l.take (i + 1)) := by
          intro y
          rw [bl_ins,ins_mem,HSN.out,List.mem_append,List.mem_singleton,HMEM.out y]
          exact or_comm
         have HO4 := hZ0 ho4;clear ho4 ho3 hg3 ha3
         have HN4 := hZ0 hn4;clear hn4
         have HP4 := hZ0 hp4;clear hp4
         have HM4 := hZ0 hm4;clear hm4
         have HB4 := hZ0 hB3;clear hB3
         have HL2 := hZ0 hL2;clear hL2
         have HL1 := hZ0 hL;clear hL hck
         go_wp2_with fail
         go_roundw
         case rel => exact ⟨i + 1,insB rb k s,A3,c3,by omega,by go_num,by rw [<- HL2.out],by rw [HL1.out];omega,HO4.out,HP4.out,HM4.out,HN4.out,HB4.out⟩
         case measure => simp [intOf];omega
    ·have h2 : ∀ p,(bl rb)[k]? = some p -> s.toList < p := fun p hp => by
      rw [List.getElem?_eq_none (by simp [bl];omega)] at hp
      cases hp
     have H2 := hZ0 h2;clear h2
     have hd : decide (k < rb.length) = false := by simpa using hkl
     go_wp2_with fail
     go_quiet (fail)
     go_wp2_with fail
     go_quiet (fail)
     go_wp2_with fail
     cases R with
     | none =>
      generalize hw0 : World.drewN wr _ = w0
      have hk0 : Kept NoF wr w0 := by rw [<- hw0];exact (Kept.refl _ _).drewN _
      clear hw0
      have hkw := hkq.then hk0
      have hB0 : Below w.heap.size w w0 := HB.out.trans (hkw.below hsz (fun _ x => x.elim))
      have hz0 := hB0.size
      have hc0 : ∀ W,Kept NoF w0 W -> W.cell? (ad.add i) = some (.string s) := fun W hW => HC.out W (hB0.trans (hW.below hz0 (fun _ x => x.elim)))
      have e5 := hc0 w0 (Kept.refl _ _)
      have HC0 := hZ0 hc0;clear hc0
      have e6 : ∀ (n : Nat) (o : Obj),((w0.drewN n).alloc o).cell? (ad.add i) = some (.string s) := fun n o => HC0.out _ (((Kept.refl _ _).drewN n).alloc o)
      have hsrc := (Src.of_own HROW.out).kept hkw (fun _ _ x => x)
      have sr1 : ∀ W,Kept NoF w0 W -> Src W 1 (none) k (strs (rb.take k)) := fun W hW => by
       have := (hsrc.kept hW (fun _ _ x => x)).take hk
       rw [Nat.mul_one,<- List.map_take] at this
       exact this
      have SR1 := hZ0 sr1;clear sr1
      have sr2 : ∀ W,Kept NoF w0 W -> Src W 1 (if rc = k then (none) else Option.map (fun ad : Addr => ad.add k) (none)) (rb.length - k) (strs (rb.drop k)) := fun W hW => by
       have := (hsrc.kept hW (fun _ _ x => x)).drop (cap := rc) hk hcap.1
       simp only [Nat.mul_one] at this
       rw [<- List.map_drop] at this
       exact this
      have SR2 := hZ0 sr2;clear sr2 hsrc
      have HM0 : Hid (0 + k <= maxLen) := hZ0 (by unfold maxLen;omega)
      have HY0 : Hid ((0 + k) * 16 <= 140737488355328) := hZ0 (by omega)
      have HM1 : Hid (k + 1 <= maxLen) := hZ0 (by unfold maxLen;omega)
      have HY1 : Hid ((k + 1) * 16 <= 140737488355328) := hZ0 (by omega)
      have HM2 : Hid (k + 1 + (rb.length - k) <= maxLen) := hZ0 (by unfold maxLen;omega)
      have HY2 : Hid ((k + 1 + (rb.length - k)) * 16 <= 140737488355328) := hZ0 (by omega)
      have hI1 : (k : Int) <= (rc : Int) := by have := hcap.1;omega
      clear e0
      go_region_law (first
       | (with_reducible apply step_append_src elemStr (.tmp 45) (.tmp 48) (n := 0) (xs := []) (A := none) (m := k) (c := rc) (news := strs (rb.take k))
          rfl
          rfl
          exact (rfl : _ = Value.slice (some ⟨_,0,none⟩) 0 0)
          (refine own_empty (cs := #[]) ?_ rfl;(repeat (first | with_reducible exact Has.new_at _ _ _ (by simp) | with_reducible apply Has.drew | with_reducible apply Has.drewN | with_reducible apply Has.alloc | (with_reducible apply Has.past <;> (try omega)) )))
          exact (rfl : _ = Value.slice (none) k rc)
          (exact SR1.out _ (by (repeat' (first | (with_reducible first | exact kR0 | apply kP0 | apply kN0 | apply kD0 | apply kA0) | (right;simp;done)))))
          exact strs_one _
          exact HM0.out
          exact HY0.out
          intro A1 c1 w1 ho1 hg1 ha1
          have hk1 : Kept NoF w0 w1 := by refine Kept.grown ?_ hg1 ?_;(repeat' (first | (with_reducible first | exact kR0 | apply kP0 | apply kN0 | apply kD0 | apply kA0) | (right;simp;done)));exact fun k hk => .inr (new_row hk (by first | (simp;done) | (simp;omega) | omega))
          have P0 := HC0.out w1 hk1
          have hz1 := hk1.size
          simp only [Nat.zero_add,List.nil_append] at ho1 ha1 ⊢)
       | (with_reducible apply step_append_src elemStr (.tmp 49) (.tmp 54) (n := k) (xs := strs (rb.take k)) (m := 1) (c := 1) (news := [.string s])
          rfl
          rfl
          exact (rfl : _ = Value.slice A1 k c1)
          (refine own_kept ho1 (F := NoF) ?_ (fun _ _ x => x);(repeat' (first | (with_reducible first | exact kR0 | apply kP0 | apply kN0 | apply kD0 | apply kA0) | (right;simp;done))))
          exact (rfl : _ = Value.slice (some ⟨_,0,none⟩) 1 1)
          (refine Src.of_has (t := 9) (cs := #[.string s]) ?_ rfl;(repeat (first | with_reducible exact Has.new_at _ _ _ (by simp) | with_reducible apply Has.drew | with_reducible apply Has.drewN | with_reducible apply Has.alloc | (with_reducible refine Has.grown ?_ hg1 (by simp [Value.ownBlock])))))
          (intro u hu;simp at hu;subst hu;rfl)
          exact HM1.out
          exact HY1.out
          intro A2 c2 w2 ho2 hg2 ha2
          have hk2 : Kept NoF w0 w2 := by refine Kept.grown (Kept.then hk1 ?_) hg2 ?_;(repeat' (first | (with_reducible first | exact kR0 | apply kP0 | apply kN0 | apply kD0 | apply kA0) | (right;simp;done)));exact fun k hk => .inr (new_row2 hk ha1 (by first | (simp;done) | (simp;omega) | omega) (by first | (simp;done) | (simp;omega) | omega))
          have hz2 := hk2.size))
      all_goals
       have hlow : ∀ k',(Value.slice A2 (k + 1) c2).ownBlock = some k' -> w0.heap.size <= k' := fun k' hk' => new_row3 hk' ha2 ha1 (by first | (simp;done) | (simp;omega) | omega) (by first | (simp;done) | (simp;omega) | omega) (by first | (simp;done) | (simp;omega) | omega)
       have HLOW := hZ0 hlow;clear hlow
       have HO2 := hZ0 ho2;clear ho2 ho1 hg1 hg2 ha1 ha2 P0 e5 e6
       have hkL : (k : Int) <= rb.length := by omega
       have hs2 := SR2.out w2 hk2
       by_cases hck : rc = k
       all_goals
        first | rw [if_pos hck] at hs2 | rw [if_neg hck] at hs2
        first | rw [Option.map_some] at hs2 | rw [Option.map_none] at hs2 | skip
        have HS2 := hZ0 hs2;clear hs2
        go_wp2_with (at_builtin;refine list_append_src elemStr (.tmp 56) (.tmp 59) rfl rfl (Value.slice A2 (k + 1) c2) rfl HO2.out _ rfl HS2.out (strs_one _) HM2.out HY2.out ?_;intro A3 c3 w3 ho3 hg3 ha3)
        have hL := insB_len rb k s
        have hL2 : k + 1 + (rb.length - k) = (insB rb k s).length := by rw [hL];omega
        have hk3 : Kept NoF w0 w3 := hk2.grown hg3 (fun k' hk' => .inr (HLOW.out k' hk'))
        have hB3 : Below w.heap.size w w3 := hB0.trans (hk3.below hz0 (fun _ x => x.elim))
        have ho4 : w3.ownsRow 0 9 1 (.slice A3 (insB rb k s).length c3) (insB rb k s).length (strs (insB rb k s)) := by
         rw [<- hL2,show strs (insB rb k s) = strs (rb.take k) ++ [Value.string s] ++ strs (rb.drop k) by simp [insB,strs]]
         exact ho3
        have hn4 : ∀ k',(Value.slice A3 (insB rb k s).length c3).ownBlock = some k' -> w.heap.size <= k' := by
         rw [<- hL2]
         intro k' hk'
         rcases ha3 with h | h
         ·have := HLOW.out k' (h.symm.trans hk');omega
         ·rw [hk'] at h
          injection h with h
          omega
        have hp4 : (bl (insB rb k s)).Pairwise (· < ·) := by rw [bl_ins];exact ins_rises HPW.out HALL.out H2.out
        have hm4 : ∀ y,y ∈ bl (insB rb k s) ↔ y ∈ bl (l.take (i + 1)) := by
         intro y
         rw [bl_ins,ins_mem,HSN.out,List.mem_append,List.mem_singleton,HMEM.out y]
         exact or_comm
        have HO4 := hZ0 ho4;clear ho4 ho3 hg3 ha3
        have HN4 := hZ0 hn4;clear hn4
        have HP4 := hZ0 hp4;clear hp4
        have HM4 := hZ0 hm4;clear hm4
        have HB4 := hZ0 hB3;clear hB3
        have HL2 := hZ0 hL2;clear hL2
        have HL1 := hZ0 hL;clear hL hck
        go_wp2_with fail
        go_roundw
        case rel => exact ⟨i + 1,insB rb k s,A3,c3,by omega,by go_num,by rw [<- HL2.out],by rw [HL1.out];omega,HO4.out,HP4.out,HM4.out,HN4.out,HB4.out⟩
        case measure => simp [intOf];omega
     | some td =>
      generalize hw0 : World.drewN wr _ = w0
      have hk0 : Kept NoF wr w0 := by rw [<- hw0];exact (Kept.refl _ _).drewN _
      clear hw0
      have hkw := hkq.then hk0
      have hB0 : Below w.heap.size w w0 := HB.out.trans (hkw.below hsz (fun _ x => x.elim))
      have hz0 := hB0.size
      have hc0 : ∀ W,Kept NoF w0 W -> W.cell? (ad.add i) = some (.string s) := fun W hW => HC.out W (hB0.trans (hW.below hz0 (fun _ x => x.elim)))
      have e5 := hc0 w0 (Kept.refl _ _)
      have HC0 := hZ0 hc0;clear hc0
      have e6 : ∀ (n : Nat) (o : Obj),((w0.drewN n).alloc o).cell? (ad.add i) = some (.string s) := fun n o => HC0.out _ (((Kept.refl _ _).drewN n).alloc o)
      have hsrc := (Src.of_own HROW.out).kept hkw (fun _ _ x => x)
      have sr1 : ∀ W,Kept NoF w0 W -> Src W 1 (some td) k (strs (rb.take k)) := fun W hW => by
       have := (hsrc.kept hW (fun _ _ x => x)).take hk
       rw [Nat.mul_one,<- List.map_take] at this
       exact this
      have SR1 := hZ0 sr1;clear sr1
      have sr2 : ∀ W,Kept NoF w0 W -> Src W 1 (if rc = k then (some td) else Option.map (fun ad : Addr => ad.add k) (some td)) (rb.length - k) (strs (rb.drop k)) := fun W hW => by
       have := (hsrc.kept hW (fun _ _ x => x)).drop (cap := rc) hk hcap.1
       simp only [Nat.mul_one] at this
       rw [<- List.map_drop] at this
       exact this
      have SR2 := hZ0 sr2;clear sr2 hsrc
      have HM0 : Hid (0 + k <= maxLen) := hZ0 (by unfold maxLen;omega)
      have HY0 : Hid ((0 + k) * 16 <= 140737488355328) := hZ0 (by omega)
      have HM1 : Hid (k + 1 <= maxLen) := hZ0 (by unfold maxLen;omega)
      have HY1 : Hid ((k + 1) * 16 <= 140737488355328) := hZ0 (by omega)
      have HM2 : Hid (k + 1 + (rb.length - k) <= maxLen) := hZ0 (by unfold maxLen;omega)
      have HY2 : Hid ((k + 1 + (rb.length - k)) * 16 <= 140737488355328) := hZ0 (by omega)
      have hI1 : (k : Int) <= (rc : Int) := by have := hcap.1;omega
      clear e0
      go_region_law (first
       | (with_reducible apply step_append_src elemStr (.tmp 45) (.tmp 48) (n := 0) (xs := []) (A := some td) (m := k) (c := rc) (news := strs (rb.take k))
          rfl
          rfl
          exact (rfl : _ = Value.slice (some ⟨_,0,none⟩) 0 0)
          (refine own_empty (cs := #[]) ?_ rfl;(repeat (first | with_reducible exact Has.new_at _ _ _ (by simp) | with_reducible apply Has.drew | with_reducible apply Has.drewN | with_reducible apply Has.alloc | (with_reducible apply Has.past <;> (try omega)) )))
          exact (rfl : _ = Value.slice (some td) k rc)
          (exact SR1.out _ (by (repeat' (first | (with_reducible first | exact kR0 | apply kP0 | apply kN0 | apply kD0 | apply kA0) | (right;simp;done)))))
          exact strs_one _
          exact HM0.out
          exact HY0.out
          intro A1 c1 w1 ho1 hg1 ha1
          have hk1 : Kept NoF w0 w1 := by refine Kept.grown ?_ hg1 ?_;(repeat' (first | (with_reducible first | exact kR0 | apply kP0 | apply kN0 | apply kD0 | apply kA0) | (right;simp;done)));exact fun k hk => .inr (new_row hk (by first | (simp;done) | (simp;omega) | omega))
          have P0 := HC0.out w1 hk1
          have hz1 := hk1.size
          simp only [Nat.zero_add,List.nil_append] at ho1 ha1 ⊢)
       | (with_reducible apply step_append_src elemStr (.tmp 49) (.tmp 54) (n := k) (xs := strs (rb.take k)) (m := 1) (c := 1) (news := [.string s])
          rfl
          rfl
          exact (rfl : _ = Value.slice A1 k c1)
          (refine own_kept ho1 (F := NoF) ?_ (fun _ _ x => x);(repeat' (first | (with_reducible first | exact kR0 | apply kP0 | apply kN0 | apply kD0 | apply kA0) | (right;simp;done))))
          exact (rfl : _ = Value.slice (some ⟨_,0,none⟩) 1 1)
          (refine Src.of_has (t := 9) (cs := #[.string s]) ?_ rfl;(repeat (first | with_reducible exact Has.new_at _ _ _ (by simp) | with_reducible apply Has.drew | with_reducible apply Has.drewN | with_reducible apply Has.alloc | (with_reducible refine Has.grown ?_ hg1 (by simp [Value.ownBlock])))))
          (intro u hu;simp at hu;subst hu;rfl)
          exact HM1.out
          exact HY1.out
          intro A2 c2 w2 ho2 hg2 ha2
          have hk2 : Kept NoF w0 w2 := by refine Kept.grown (Kept.then hk1 ?_) hg2 ?_;(repeat' (first | (with_reducible first | exact kR0 | apply kP0 | apply kN0 | apply kD0 | apply kA0) | (right;simp;done)));exact fun k hk => .inr (new_row2 hk ha1 (by first | (simp;done) | (simp;omega) | omega) (by first | (simp;done) | (simp;omega) | omega))
          have hz2 := hk2.size))
      all_goals
       have hlow : ∀ k',(Value.slice A2 (k + 1) c2).ownBlock = some k' -> w0.heap.size <= k' := fun k' hk' => new_row3 hk' ha2 ha1 (by first | (simp;done) | (simp;omega) | omega) (by first | (simp;done) | (simp;omega) | omega) (by first | (simp;done) | (simp;omega) | omega)
       have HLOW := hZ0 hlow;clear hlow
       have HO2 := hZ0 ho2;clear ho2 ho1 hg1 hg2 ha1 ha2 P0 e5 e6
       have hkL : (k : Int) <= rb.length := by omega
       have hs2 := SR2.out w2 hk2
       by_cases hck : rc = k
       all_goals
        first | rw [if_pos hck] at hs2 | rw [if_neg hck] at hs2
        first | rw [Option.map_some] at hs2 | rw [Option.map_none] at hs2 | skip
        have HS2 := hZ0 hs2;clear hs2
        go_wp2_with (at_builtin;refine list_append_src elemStr (.tmp 56) (.tmp 59) rfl rfl (Value.slice A2 (k + 1) c2) rfl HO2.out _ rfl HS2.out (strs_one _) HM2.out HY2.out ?_;intro A3 c3 w3 ho3 hg3 ha3)
        have hL := insB_len rb k s
        have hL2 : k + 1 + (rb.length - k) = (insB rb k s).length := by rw [hL];omega
        have hk3 : Kept NoF w0 w3 := hk2.grown hg3 (fun k' hk' => .inr (HLOW.out k' hk'))
        have hB3 : Below w.heap.size w w3 := hB0.trans (hk3.below hz0 (fun _ x => x.elim))
        have ho4 : w3.ownsRow 0 9 1 (.slice A3 (insB rb k s).length c3) (insB rb k s).length (strs (insB rb k s)) := by
         rw [<- hL2,show strs (insB rb k s) = strs (rb.take k) ++ [Value.string s] ++ strs (rb.drop k) by simp [insB,strs]]
         exact ho3
        have hn4 : ∀ k',(Value.slice A3 (insB rb k s).length c3).ownBlock = some k' -> w.heap.size <= k' := by
         rw [<- hL2]
         intro k' hk'
         rcases ha3 with h | h
         ·have := HLOW.out k' (h.symm.trans hk');omega
         ·rw [hk'] at h
          injection h with h
          omega
        have hp4 : (bl (insB rb k s)).Pairwise (· < ·) := by rw [bl_ins];exact ins_rises HPW.out HALL.out H2.out
        have hm4 : ∀ y,y ∈ bl (insB rb k s) ↔ y ∈ bl (l.take (i + 1)) := by
         intro y
         rw [bl_ins,ins_mem,HSN.out,List.mem_append,List.mem_singleton,HMEM.out y]
         exact or_comm
        have HO4 := hZ0 ho4;clear ho4 ho3 hg3 ha3
        have HN4 := hZ0 hn4;clear hn4
        have HP4 := hZ0 hp4;clear hp4
        have HM4 := hZ0 hm4;clear hm4
        have HB4 := hZ0 hB3;clear hB3
        have HL2 := hZ0 hL2;clear hL2
        have HL1 := hZ0 hL;clear hL hck
        go_wp2_with fail
        go_roundw
        case rel => exact ⟨i + 1,insB rb k s,A3,c3,by omega,by go_num,by rw [<- HL2.out],by rw [HL1.out];omega,HO4.out,HP4.out,HM4.out,HN4.out,HB4.out⟩
        case measure => simp [intOf];omega
  ·obtain rfl : i = l.length := by omega
   have hset : rb = setB l := by
    have h1 : bl rb = setL (bl l) := set_unique HPW.out (fun y => by rw [HMEM.out y,List.take_length])
    unfold setB
    rw [<- h1]
    unfold bl
    rw [List.map_map]
    conv => lhs;rw [<- List.map_id rb]
    congr 1
    funext x
    simp [ByteArray.toList_eq]
   subst hset
   go_wp2
   go_ret
   exact ⟨R,rc,rfl,HROW.out,HNEW.out,HB.out⟩
end Keys
end Go.Proofs.Ytobfdolhgnoedaa

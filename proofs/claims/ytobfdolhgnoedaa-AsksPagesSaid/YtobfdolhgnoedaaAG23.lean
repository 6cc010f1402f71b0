/- Part 24 of what the proof needs. -/
import Derived.Test.YtobfdolhgnoedaaAG21
import Derived.Test.YtobfdolhgnoedaaAG22
import Derived.Deep.CutBlock
import Derived.Deep.DeepCutAuto
set_option linter.unusedSimpArgs false
set_option linter.unusedVariables false
set_option maxHeartbeats 32000000
set_option maxRecDepth 100000
namespace Go.Proofs.Ytobfdolhgnoedaa
open Go.RowKit
set_option maxRecDepth 100000
namespace Ask
open Plan Ops Ent Msg MO Vn
attribute [local go_sem ↓] storeVar_msg loadVar_msg
theorem opsOf_snoc {l : List PairR} {i : Nat} {p : PairR} (h : l[i]? = some p) : opsOf (l.take (i + 1)) = opsOf (l.take i) ++ (if keyE p.key = 0 then [⟨p.key,p.val,false⟩] else []) := by
 unfold opsOf
 rw [List.take_add_one,h,Option.toList_some,List.filter_append,List.map_append]
 by_cases e : keyE p.key = 0
 ·rw [if_pos e,List.filter_cons,if_pos (decide_eq_true e)];rfl
 ·rw [if_neg e,List.filter_cons,if_neg (by simpa using e)];rfl
theorem opsOf_len (l : List PairR) : (opsOf l).length <= l.length := by
 unfold opsOf
 rw [List.length_map]
 exact List.length_filter_le _ _
theorem betw_snoc {al : List OpR} {f t : ByteArray} {i : Nat} {o : OpR} (h : al[i]? = some o) : betw (al.take (i + 1)) f t = betw (al.take i) f t ++ (if inB o.key f t = true then [prOf o] else []) := by
 unfold betw
 rw [List.take_add_one,h,Option.toList_some,List.filter_append,List.map_append]
 by_cases e : inB o.key f t = true
 ·rw [if_pos e,List.filter_cons,if_pos e];rfl
 ·rw [if_neg e,List.filter_cons,if_neg e];rfl
theorem betw_len (al : List OpR) (f t : ByteArray) : (betw al f t).length <= al.length := by
 unfold betw
 rw [List.length_map]
 exact List.length_filter_le _ _
theorem betw_app (a b : List OpR) (f t : ByteArray) : betw (a ++ b) f t = betw a f t ++ betw b f t := by
 unfold betw
 rw [List.filter_append,List.map_append]
theorem betw_take (al : List OpR) (f t : ByteArray) (i : Nat) : ∃ r,betw al f t = betw (al.take i) f t ++ r := ⟨betw (al.drop i) f t,by rw [<- betw_app,List.take_append_drop]⟩
theorem normL_len (m : List OpR) : (normL m).length <= m.length := by
 unfold normL
 rw [List.length_map]
 exact normK_len m
theorem many_ok {n0 : Int} (h : 0 <= n0 /\ n0 < 256) : IntKind.i64.wrap n0 = n0 /\ ∃ r many : Nat,n0.tmod 32 = r /\ IntKind.i64.wrap (1 + (r : Int)) = (many : Int) /\ 1 <= many /\ many <= 32 := by
 refine ⟨IntWalk.i64_in _ (by omega),(n0 % 32).toNat,1 + (n0 % 32).toNat,?_,?_,by omega,by omega⟩
 ·rw [Int.tmod_eq_emod_of_nonneg h.1];omega
 ·rw [IntWalk.i64_in _ (by omega)];omega
theorem newE_G {f t : ByteArray} {many : Nat} (hf : f.size <= 8) (ht : t.size <= 8) (hm : 1 <= many /\ many <= 32) : newE 1 2 (askG f t many) = 0 := by
 have h1 : mayB 1 2 (boOf (askG f t many)) (askG f t many) = true := by
  unfold mayB askG
  dsimp only
  rw [if_neg (by decide),if_neg (by decide),if_pos rfl,decide_eq_true (show f.size <= 8 from hf),decide_eq_true (show t.size <= 8 from ht),decide_eq_true (show (1 : Int) <= (many : Int) by omega),decide_eq_true (show (many : Int) <= 32 by omega)]
  rfl
 unfold newE
 rw [if_neg (by decide),if_neg (by decide),if_pos h1]
theorem qgood_G (W : World) {f t : ByteArray} {many : Nat} (hf : f.size <= 8) (ht : t.size <= 8) (hm : 1 <= many /\ many <= 32) : QGood W (askG f t many) := by
 have h1 : I64 (many : Int) := by unfold I64;simp [Lit.wf,IntKind.min,IntKind.max,IntKind.signed,IntKind.bits];omega
 refine ⟨Src.nil _ _ _,Nat.le_refl _,by unfold maxLen;exact Nat.zero_le _,(fun o ho => by cases ho),?_,?_,h1,?_,?_,?_⟩
 ·show I64 2;unfold I64;decide
 ·show I64 0;unfold I64;decide
 ·show (0 : Int) <= 9 /\ (9 : Int) <= maxTs;unfold maxTs;omega
 ·show f.size <= maxLen;unfold maxLen;omega
 ·show t.size <= maxLen;unfold maxLen;omega
theorem i64_many {many : Nat} (hm : 1 <= many /\ many <= 32) : I64 (many : Int) := by unfold I64;simp [Lit.wf,IntKind.min,IntKind.max,IntKind.signed,IntKind.bits];omega
def PgS (f t : ByteArray) (many : Nat) (al : List OpR) (S : List PairR) (tt : TS) (j : Nat) : Prop :=
 (j <= 15 /\ ∃ K,tt = stG f t many S (2 * j) K /\ 2 * j < many /\ 2 * j <= S.length /\ betw al K t = S.drop (2 * j)) \/ (j <= 16 /\ doneG f t many S tt)
theorem pgs_len {f t : ByteArray} {many : Nat} {al : List OpR} {S : List PairR} {tt : TS} {j : Nat} (h : PgS f t many al S tt j) (hm : 1 <= many /\ many <= 32) : tt.r.ps.length <= 1000 := by
 rcases h with ⟨_,K,rfl,_⟩ | ⟨_,_,n,hr⟩
 ·show (0 : Nat) <= 1000;decide
 ·rw [hr]
  show (S.take many).length <= 1000
  rw [List.length_take]
  omega
theorem msgG_put21 {W : World} {bx : Nat} {K : ByteArray} {fl : Bool} {A A' : Option Addr} {c c' n : Nat} {L L' : List PairR} (h : Has W bx 34 (xcell (msgG K fl A c L)).toArray) (hn : L'.length = n) : Has (W.setCell ⟨bx,21,none⟩ (.slice A' n c')) bx 34 (xcell (msgG K fl A' c' L')).toArray := by
 have g := h.put 21 (.slice A' n c')
 have e : (xcell (msgG K fl A' c' L')).toArray = (xcell (msgG K fl A c L)).toArray.setIfInBounds 21 (.slice A' n c') := by rw [<- hn];rfl
 rw [e];exact g
theorem msgG_put4 {W : World} {bx : Nat} {K : ByteArray} {A : Option Addr} {c : Nat} {L : List PairR} (h : Has W bx 34 (xcell (msgG K false A c L)).toArray) : Has (W.setCell ⟨bx,4,none⟩ (.bool true)) bx 34 (xcell (msgG K true A c L)).toArray := h.put 4 (.bool true)
theorem own_blk {w : World} {e : TypeId} {size n c : Nat} {A : Option Addr} {ad : Addr} {xs : List Value} (h : w.ownsRow 0 e size (.slice A n c) n xs) (hA : A = some ad) : (Value.slice A n c).ownBlock = some ad.block := by
 rcases h.2 with ⟨h1,_⟩ | ⟨g,cap,cur,h1,_⟩
 ·rw [hA] at h1;injection h1 with h1;cases h1
 ·rw [hA] at h1
  injection h1 with h1
  injection h1 with h1
  rw [hA,h1]
  simp [Value.ownBlock]
theorem u8r {x : Int} (h : (Lit.int .u8 x).wf = true) : 0 <= x /\ x < 256 := by
 have h1 : 0 <= x /\ x <= 255 := by simpa [Lit.wf,IntKind.min,IntKind.max,IntKind.signed,IntKind.bits] using h
 omega
theorem hno6_kept {w2 w3 : World} {B n c : Nat} {A : Option Addr} {xs : List Value} (h : NewSl 70 3 B w2 A n c xs) (hk : Kept NoF w2 w3) : NewSl 70 3 B w3 A n c xs := h.kept hk
theorem law_pagesA (w : World) (A : Option Addr) (c : Nat) (l : List PairR) (f t : ByteArray) (n0 : Int) (hl : Src w 2 A l.length (pcells l)) (hlc : l.length <= c /\ c <= maxLen) (hlk : ∀ p ∈ l,p.key.size <= maxLen /\ p.val.size <= maxLen) (hf : f.size <= maxLen) (ht : t.size <= maxLen) (hn : 0 <= n0 /\ n0 < 256) :
  Calls Try.prog 6 #[.slice A l.length c,.string f,.string t,.int .u8 n0] w fun e w' => e = .returned (.bool true) /\ Below w.heap.size w w' := by
 have hend : ∀ w',Kept NoF w w' -> Below w.heap.size w w' := fun w' hk => hk.below (Nat.le_refl _) (fun _ z => z.elim)
 have haw := fun W => awake_a W
 have HEND := hZ0 hend;have HAW := hZ0 haw;have HL := hZ0 hl;have HLK := hZ0 hlk;have HN := hZ0 hn;have HLC := hZ0 hlc
 have hm1 : f.size <= 9223372036854775807 := by unfold maxLen at hf;omega
 have hm2 : t.size <= 9223372036854775807 := by unfold maxLen at ht;omega
 have hm3 : l.length <= 9223372036854775807 := by unfold maxLen at hlc;omega
 clear hend haw hl hlk hn hlc hf ht
 by_cases g1 : 60 < l.length
 ·have g2 : (60 : Int) < (l.length : Int) := by omega
  go_enter Try.func6,Try.ntmps6
  go_wp2_with fail
  refine (HAW.out _).mono ?_
  rintro e w9 ⟨rfl,hk9⟩
  have HE := hZ0 (HEND.out _ hk9);clear hk9
  go_wp2
  go_ret
  exact ⟨rfl,HE.out⟩
 have g1i : ¬ (60 : Int) < (l.length : Int) := by omega
 by_cases g2 : 8 < f.size
 ·have g3 : (8 : Int) < (f.size : Int) := by omega
  go_enter Try.func6,Try.ntmps6
  go_wp2_with fail
  refine (HAW.out _).mono ?_
  rintro e w9 ⟨rfl,hk9⟩
  have HE := hZ0 (HEND.out _ hk9);clear hk9
  go_wp2
  go_ret
  exact ⟨rfl,HE.out⟩
 have g2i : ¬ (8 : Int) < (f.size : Int) := by omega
 by_cases g3 : 8 < t.size
 ·have g4 : (8 : Int) < (t.size : Int) := by omega
  go_enter Try.func6,Try.ntmps6
  go_wp2_with fail
  refine (HAW.out _).mono ?_
  rintro e w9 ⟨rfl,hk9⟩
  have HE := hZ0 (HEND.out _ hk9);clear hk9
  go_wp2
  go_ret
  exact ⟨rfl,HE.out⟩
 have g3i : ¬ (8 : Int) < (t.size : Int) := by omega
 have HG := hZ0 (And.intro g1 (And.intro g2 g3))
 clear g1 g2 g3
 go_enter Try.func6,Try.ntmps6
 go_wp2_with fail
 go_loopw [9,10] (fun v9 v10 wr => ∃ (i : Nat) (A' : Option Addr) (c' : Nat),i <= l.length /\ v10 = .int .i64 i /\ v9 = .slice A' (opsOf (l.take i)).length c' /\ NewSl 70 3 w.heap.size wr A' (opsOf (l.take i)).length c' (cells (opsOf (l.take i))) /\ Kept NoF w wr) (fun _ v10 _ => l.length - (intOf v10).toNat)
 case atStart => exact ⟨0,none,0,Nat.zero_le _,rfl,rfl,⟨⟨rfl,.inl ⟨rfl,rfl⟩⟩,fun k hk => by cases hk⟩,Kept.refl _ _⟩
 case round =>
  obtain ⟨i,A5,c5,hi,rfl,rfl,hrow,hk⟩ := hrel
  have HROW := hZ0 hrow;have HK := hZ0 hk
  clear hrow hk
  by_cases hil : i < l.length
  ·obtain ⟨p,hp⟩ : ∃ p,l[i]? = some p := ⟨_,List.getElem?_eq_getElem hil⟩
   have hsn := opsOf_snoc hp
   obtain ⟨q,hq⟩ : ∃ q,(opsOf (l.take i)).length = q := ⟨_,rfl⟩
   have hql : q <= 60 := by have := opsOf_len (l.take i);rw [List.length_take] at this;have := HG.out.1;omega
   have hpc := fun W (hW : Kept NoF w W) => pair_cells (HL.out.kept hW (fun _ _ z => z)) (by omega) i p hp
   obtain ⟨ad,rfl,had,e0,e1⟩ := hpc wr HK.out
   have hck := fun W => rkcheckA W p.key
   obtain ⟨z,hz⟩ : ∃ z,keyE p.key = z := ⟨_,rfl⟩
   simp only [hz] at hck
   have HCK := hZ0 hck;have HSN := hZ0 hsn;have HZ := hZ0 hz
   rw [hq] at HROW ⊢
   have HQ := hZ0 hq
   clear hck hsn hz hp hq
   by_cases hz0 : z = 0
   ·have bz : (z == 0) = true := by simpa using hz0
    go_wp2_with fail
    refine (HCK.out _).mono ?_
    rintro e w2 ⟨rfl,rfl⟩
    have HSN := hZ0 (show opsOf (l.take (i + 1)) = opsOf (l.take i) ++ [⟨p.key,p.val,false⟩] by rw [HSN.out,if_pos (HZ.out.trans hz0)])
    clear hz0
    have hal : ∀ W,Kept NoF w W -> W.cell? (ad.add (i * 2)) = some (.string p.key) /\ W.cell? ⟨(ad.add (i * 2)).block,(ad.add (i * 2)).off + 1,none⟩ = some (.string p.val) := fun W hW => by
     obtain ⟨ad2,e2,-,q0,q1⟩ := hpc W hW
     injection e2 with e2
     subst e2
     exact ⟨q0,q1⟩
    have ha0 : ∀ n' o,((wr.drewN n').alloc o).cell? (ad.add (i * 2)) = some (.string p.key) := fun n' o => (hal _ (HK.out.then (by (repeat' (first | (with_reducible first | exact kR0 | apply kP0 | apply kN0 | apply kD0 | apply kA0) | (right;simp;done)))))).1
    have ha1 : ∀ n' o,((wr.drewN n').alloc o).cell? ⟨(ad.add (i * 2)).block,(ad.add (i * 2)).off + 1,none⟩ = some (.string p.val) := fun n' o => (hal _ (HK.out.then (by (repeat' (first | (with_reducible first | exact kR0 | apply kP0 | apply kN0 | apply kD0 | apply kA0) | (right;simp;done)))))).2
    have HM1 : Hid (q + 1 <= maxLen) := hZ0 (by unfold maxLen;omega)
    have HM2 : Hid ((q + 1) * 40 <= 140737488355328) := hZ0 (by omega)
    clear hpc hal
    go_wp2_with fail
    go_region_law (first
      | (with_reducible apply step_append_src elemOpA (.tmp 50) (.tmp 62) (n := q) (xs := cells (opsOf (l.take i))) (A := some ⟨_,0,none⟩) (m := 1) (c := 1) (news := [.string p.key,.string p.val,.bool false])
         rfl
         rfl
         exact (rfl : _ = Value.slice A5 q c5)
         (refine own_kept HROW.out.1 (F := NoF) ?_ (fun _ _ x => x);(repeat' (first | (with_reducible first | exact kR0 | apply kP0 | apply kN0 | apply kD0 | apply kA0) | (right;simp;done))))
         exact (rfl : _ = Value.slice (some ⟨_,0,none⟩) 1 1)
         (refine Src.of_has (t := 70) (cs := #[.string p.key,.string p.val,.bool false]) ?_ rfl;(repeat (first | with_reducible exact Has.new_at _ _ _ (by simp) | with_reducible apply Has.drew | with_reducible apply Has.drewN | with_reducible apply Has.alloc | (with_reducible apply Has.past <;> (try omega)) )))
         (intro u hu;simp at hu;rcases hu with rfl | rfl | rfl <;> rfl)
         exact HM1.out
         exact HM2.out
         intro A6 c6 w6 ho6 hg6 ha6
         have hk6 : Kept NoF w w6 := by refine Kept.grown (Kept.then (F := NoF) HK.out ?_) hg6 ?_;(repeat' (first | (with_reducible first | exact kR0 | apply kP0 | apply kN0 | apply kD0 | apply kA0) | (right;simp;done)));exact fun k hk => .inr (HROW.out.2 k hk)
         have hn6 : NewSl 70 3 w.heap.size w6 A6 (q + 1) c6 (cells (opsOf (l.take i)) ++ [.string p.key,.string p.val,.bool false]) := HROW.out.snoc (by have := HK.out.size;first | (simp;omega) | omega) ho6 ha6
         have HN6 := hZ0 hn6;have HK6 := hZ0 hk6
         clear ho6 hg6 ha6 hn6 hk6))
    all_goals
     go_wp2
     go_roundw
     case rel => exact ⟨i + 1,A6,c6,by omega,by go_num,by rw [HSN.out,List.length_append,HQ.out];rfl,by rw [HSN.out,List.length_append,HQ.out];unfold cells;rw [List.flatMap_append];exact HN6.out,HK6.out⟩
     case measure => simp [intOf];omega
   ·have bz : (z == 0) = false := by simpa using hz0
    have HZ0 := hZ0 hz0
    clear hz0
    go_wp2_with fail
    refine (HCK.out _).mono ?_
    rintro e w2 ⟨rfl,rfl⟩
    go_wp2
    go_roundw
    case rel =>
     rw [if_neg (by rw [HZ.out];exact HZ0.out),List.append_nil] at HSN
     exact ⟨i + 1,A5,c5,by omega,by go_num,by rw [HSN.out,HQ.out],by rw [HSN.out,HQ.out];exact HROW.out,HK.out⟩
    case measure => simp [intOf];omega
  ·obtain rfl : i = l.length := by omega
   rw [List.take_length] at HROW ⊢
   have hol : (opsOf l).length <= 1000 := by have := opsOf_len l;have := HG.out.1;omega
   have hno := rnorm_any wr A5 c5 (opsOf l) (Src.of_own HROW.out.1) hol
   obtain ⟨al,hal⟩ : ∃ al,normL (opsOf l) = al := ⟨_,rfl⟩
   have hok := all_ok l
   have hall := normL_len (opsOf l)
   unfold NewOps at hno
   rw [hal] at hno hok hall
   obtain ⟨na,hna⟩ : ∃ na,al.length = na := ⟨_,rfl⟩
   rw [hna] at hno hall
   have hna6 : na <= 60 := by have := opsOf_len l;have := HG.out.1;omega
   obtain ⟨hcv,r,many,hr,hadd,hm12⟩ := many_ok HN.out
   have hf8 : f.size <= 8 := by have := HG.out.2.1;omega
   have ht8 : t.size <= 8 := by have := HG.out.2.2;omega
   have hnz := newE_G hf8 ht8 hm12
   have hnew := fun W => pnew_any W 1 2 (askG f t many) (qgood_G W hf8 ht8 hm12) (by show (0 : Nat) <= 1000;decide)
   unfold qagg qcell askG at hnew
   dsimp only [List.length_nil] at hnew
   obtain ⟨qo,hqo⟩ : ∃ qo,(opsOf l).length = qo := ⟨_,rfl⟩
   rw [hqo] at hno ⊢
   have HNO := hZ0 hno;have HOK := hZ0 hok;have HNA := hZ0 hna;have HN6 := hZ0 hna6;have HNEW := hZ0 hnew;have HNZ := hZ0 hnz;have HMA := hZ0 hm12
   clear hol hno hal hok hall hna hna6 hm12 hf8 ht8 hnz hnew hqo HROW
   go_wp2_with fail
   refine HNO.out.mono ?_
   rintro e w2 ⟨A6,c6,rfl,hno6,hk2⟩
   have HAL := hZ0 hno6;have HK2 := hZ0 (HK.out.then hk2);have HKW2 := hZ0 hk2.size
   clear hno6 hk2
   go_wp2_with fail
   refine (HNEW.out _).mono ?_
   rintro e w3 ⟨-,hp⟩
   obtain ⟨X,rfl,hp,hft,hk3⟩ := hp HNZ.out
   obtain ⟨tb,htb⟩ : ∃ tb,X.b = tb := ⟨_,rfl⟩
   have HP := hZ0 (show PAt w3 X (newT 1 2 (askG f t many)) from hp);have HK3 := hZ0 (HK2.out.then hk3);have HK23 := hZ0 hk3.size;have HTB := hZ0 htb
   have HFT := hZ0 (show ∀ k,foot X (newT 1 2 (askG f t many)) k -> w2.heap.size <= k from hft)
   have HAL3 := hZ0 (hno6_kept HAL.out hk3)
   rw [htb]
   clear hp hft hk3 htb
   go_upto_block 2 with fail
   go_cut [14] (fun v14 wx => ∃ A7 c7,v14 = .slice A7 ((betw al f t).take many).length c7 /\ NewSl 68 2 w3.heap.size wx A7 ((betw al f t).take many).length c7 (pcells ((betw al f t).take many)) /\ Kept NoF w3 wx)
   case first =>
    go_wp2_with fail
    go_loopw [14,15] (fun v14 v15 wr => ∃ (i : Nat) (A7 : Option Addr) (c7 : Nat),i <= na /\ v15 = .int .i64 i /\ v14 = .slice A7 (betw (al.take i) f t).length c7 /\ (betw (al.take i) f t).length <= many /\ NewSl 68 2 w3.heap.size wr A7 (betw (al.take i) f t).length c7 (pcells (betw (al.take i) f t)) /\ Kept NoF w3 wr) (fun _ v15 _ => na - (intOf v15).toNat)
    case atStart => exact ⟨0,none,0,Nat.zero_le _,rfl,rfl,Nat.zero_le _,⟨⟨rfl,.inl ⟨rfl,rfl⟩⟩,fun k hk => by cases hk⟩,Kept.refl _ _⟩
    case round =>
     obtain ⟨i,A7,c7,hi,rfl,rfl,hle,hrow,hk⟩ := hrel
     have HROW := hZ0 hrow;have HKW := hZ0 hk
     obtain ⟨q,hq⟩ : ∃ q,(betw (al.take i) f t).length = q := ⟨_,rfl⟩
     rw [hq] at hle HROW ⊢
     have HQ := hZ0 hq;have HLE := hZ0 hle
     have hm32 := HMA.out
     have hna60 := HN6.out
     clear hrow hk hq
     by_cases hil : i < na
     rotate_left
     ·obtain rfl : i = na := by omega
      have he : (betw al f t).take many = betw (al.take i) f t := by
       rw [<- HNA.out,List.take_length,List.take_of_length_le]
       have := HQ.out
       rw [<- HNA.out,List.take_length] at this
       omega
      have HE := hZ0 he
      clear he hm32 hle
      go_wp2_with fail
      go_meet
      rw [HE.out,HQ.out]
      exact ⟨A7,c7,rfl,HROW.out,HKW.out⟩
     by_cases hqm : q < many
     rotate_left
     ·have he : (betw al f t).take many = betw (al.take i) f t := by
       obtain ⟨r2,hr2⟩ := betw_take al f t i
       rw [hr2,List.take_append_of_le_length (by rw [HQ.out];omega),List.take_of_length_le (by rw [HQ.out];omega)]
      have HE := hZ0 he
      clear he hm32 hle
      go_wp2_with fail
      go_meet
      rw [HE.out,HQ.out]
      exact ⟨A7,c7,rfl,HROW.out,HKW.out⟩
     obtain ⟨o,ho⟩ : ∃ o,al[i]? = some o := ⟨_,List.getElem?_eq_getElem (by rw [HNA.out];exact hil)⟩
     have hsn := betw_snoc (f := f) (t := t) ho
     have hpc := fun W (hW : Kept NoF w3 W) => op_cells ((Src.of_own (hno6_kept HAL3.out hW).1)) (by omega) i o ho
     obtain ⟨ad,rfl,had,e0,e1,-⟩ := hpc wr HKW.out
     have hck := fun W => Keys.rin_any o.key f t W
     obtain ⟨z,hz⟩ : ∃ z,inB o.key f t = z := ⟨_,rfl⟩
     unfold inB at hz
     simp only [hz] at hck
     have HCK := hZ0 hck;have HSN := hZ0 hsn;have HZ := hZ0 (show inB o.key f t = z from hz)
     clear hck hsn hz ho hm32 hle
     cases z
     ·go_wp2_with fail
      refine (HCK.out _).mono ?_
      rintro e w5 ⟨rfl,rfl⟩
      go_wp2
      go_roundw
      case rel =>
       have hs2 : betw (al.take (i + 1)) f t = betw (al.take i) f t := by rw [HSN.out,if_neg (by rw [HZ.out];decide),List.append_nil]
       exact ⟨i + 1,A7,c7,by omega,by go_num,by rw [hs2,HQ.out],by rw [hs2,HQ.out];exact HLE.out,by rw [hs2,HQ.out];exact HROW.out,HKW.out⟩
      case measure => simp [intOf];omega
     ·have hs2 : betw (al.take (i + 1)) f t = betw (al.take i) f t ++ [prOf o] := by rw [HSN.out,if_pos HZ.out]
      have HS2 := hZ0 hs2
      have hal : ∀ W,Kept NoF w3 W -> W.cell? (ad.add (i * 3)) = some (.string o.key) /\ W.cell? ⟨(ad.add (i * 3)).block,(ad.add (i * 3)).off + 1,none⟩ = some (.string o.val) := fun W hW => by
       obtain ⟨ad2,e2,-,q0,q1,-⟩ := hpc W hW
       injection e2 with e2
       subst e2
       exact ⟨q0,q1⟩
      have ha0 : ∀ n' o',((wr.drewN n').alloc o').cell? (ad.add (i * 3)) = some (.string o.key) := fun n' o' => (hal _ (HKW.out.then (by (repeat' (first | (with_reducible first | exact kR0 | apply kP0 | apply kN0 | apply kD0 | apply kA0) | (right;simp;done)))))).1
      have ha1 : ∀ n' o',((wr.drewN n').alloc o').cell? ⟨(ad.add (i * 3)).block,(ad.add (i * 3)).off + 1,none⟩ = some (.string o.val) := fun n' o' => (hal _ (HKW.out.then (by (repeat' (first | (with_reducible first | exact kR0 | apply kP0 | apply kN0 | apply kD0 | apply kA0) | (right;simp;done)))))).2
      have HM1 : Hid (q + 1 <= maxLen) := hZ0 (by have := HMA.out;unfold maxLen;omega)
      have HM2 : Hid ((q + 1) * 32 <= 140737488355328) := hZ0 (by have := HMA.out;omega)
      clear hpc hal hs2
      go_wp2_with fail
      refine (HCK.out _).mono ?_
      rintro e w5 ⟨rfl,rfl⟩
      go_wp2_with fail
      go_region_law (first
       | (with_reducible apply step_append_src elemPairA (.tmp 100) (.tmp 112) (n := q) (xs := pcells (betw (al.take i) f t)) (A := some ⟨_,0,none⟩) (m := 1) (c := 1) (news := [.string o.key,.string o.val])
          rfl
          rfl
          exact (rfl : _ = Value.slice A7 q c7)
          (refine own_kept HROW.out.1 (F := NoF) ?_ (fun _ _ x => x);(repeat' (first | (with_reducible first | exact kR0 | apply kP0 | apply kN0 | apply kD0 | apply kA0) | (right;simp;done))))
          exact (rfl : _ = Value.slice (some ⟨_,0,none⟩) 1 1)
          (refine Src.of_has (t := 68) (cs := #[.string o.key,.string o.val]) ?_ rfl;(repeat (first | with_reducible exact Has.new_at _ _ _ (by simp) | with_reducible apply Has.drew | with_reducible apply Has.drewN | with_reducible apply Has.alloc | (with_reducible apply Has.past <;> (try omega)) )))
          (intro u hu;simp at hu;rcases hu with rfl | rfl <;> rfl)
          exact HM1.out
          exact HM2.out
          intro A8 c8 w6 ho6 hg6 ha6
          have hk6 : Kept NoF w3 w6 := by refine Kept.grown (Kept.then (F := NoF) HKW.out ?_) hg6 ?_;(repeat' (first | (with_reducible first | exact kR0 | apply kP0 | apply kN0 | apply kD0 | apply kA0) | (right;simp;done)));exact fun k hk => .inr (HROW.out.2 k hk)
          have hn6 : NewSl 68 2 w3.heap.size w6 A8 (q + 1) c8 (pcells (betw (al.take i) f t) ++ [.string o.key,.string o.val]) := HROW.out.snoc (by have := HKW.out.size;first | (simp;omega) | omega) ho6 ha6
          have HN6 := hZ0 hn6;have HK6 := hZ0 hk6
          clear ho6 hg6 ha6 hn6 hk6))
      all_goals
       go_wp2
       go_roundw
       case rel => exact ⟨i + 1,A8,c8,by omega,by go_num,by rw [HS2.out,List.length_append,HQ.out];rfl,by rw [HS2.out,List.length_append,HQ.out];show q + 1 <= many;omega,by rw [HS2.out,List.length_append,HQ.out,pcells_app];exact HN6.out,HK6.out⟩
       case measure => simp [intOf];omega
   case rest =>
    obtain ⟨wC,hwC⟩ : ∃ wC : World,wC = wc := ⟨_,rfl⟩
    subst hwC
    obtain ⟨A7,c7,rfl,hw7,hk7⟩ := hcut
    obtain ⟨S,hS⟩ : ∃ S,betw al f t = S := ⟨_,rfl⟩
    rw [hS] at hw7
    have HS := hZ0 hS
    have HW7 := hZ0 hw7;have HKC := hZ0 hk7
    have hst0 : PgS f t many al S (newT 1 2 (askG f t many)) 0 := by
     refine .inl ⟨by omega,f,rfl,by have := HMA.out;omega,Nat.zero_le _,?_⟩
     rw [hS];rfl
    have hok0 : TOk (newT 1 2 (askG f t many)) := TOk.new (by show I64 (many : Int);exact i64_many HMA.out) HNZ.out
    have HST := hZ0 (And.intro hst0 hok0)
    have hpc : PAt wC X (newT 1 2 (askG f t many)) := HP.out.quiet hk7
    have HPC := hZ0 hpc
    have hfc : ∀ k,foot X (newT 1 2 (askG f t many)) k -> (w2.heap.size <= k /\ k < w3.heap.size) \/ wC.heap.size <= k := fun k hk => .inl ⟨HFT.out k hk,HP.out.lt hk⟩
    have HFC := hZ0 hfc
    obtain ⟨nw,hnw⟩ : ∃ nw,(S.take many).length = nw := ⟨_,rfl⟩
    rw [hS,hnw]
    rw [hnw] at HW7
    have HNW := hZ0 hnw
    clear hS hw7 hk7 hst0 hok0 hpc hfc hnw
    go_wp2_with fail
    go_loopw [16,17,18,19,20,21,22] (fun v16 _ _ _ _ _ _ wr => ∃ (j : Nat) (X' : PX) (tt : TS),j <= 16 /\ v16 = .int .i64 j /\ PAt wr X' tt /\ X'.b = tb /\ TOk tt /\ PgS f t many al S tt j /\ (∀ k,foot X' tt k -> (w2.heap.size <= k /\ k < w3.heap.size) \/ wC.heap.size <= k) /\ Kept (fun k => w2.heap.size <= k /\ k < w3.heap.size) wC wr) (fun v16 _ _ _ _ _ _ _ => 100 - (intOf v16).toNat)
    case atStart => exact ⟨0,X,_,by omega,rfl,HPC.out,HTB.out,HST.out.2,HST.out.1,HFC.out,Kept.refl _ _⟩
    case round =>
     obtain ⟨wR,hwR⟩ : ∃ wR : World,wR = wr := ⟨_,rfl⟩
     subst hwR
     obtain ⟨j,X',tt,hj,rfl,hp,hb,hok,hst,hfc,hk⟩ := hrel
     have HKW := hZ0 hk;have HOKT := hZ0 hok;have HFCT := hZ0 hfc;have HB := hZ0 hb
     have HPT := hZ0 hp
     have hrl : tt.r.ps.length <= 1000 := pgs_len hst HMA.out
     have hdn := pdone_any hp hrl
     rw [hb] at hdn
     have HDN := hZ0 hdn
     clear hk hok hfc hb hp hrl hdn
     rcases hst with hst | hst
     ·obtain ⟨hj15,K,rfl,hpm,hpS,hK⟩ := hst
      obtain ⟨p,hp2⟩ : ∃ p,2 * j = p := ⟨_,rfl⟩
      rw [hp2] at hpm hpS hK
      have hj100 : (j : Int) < 100 := by omega
      have hjj : (j : Int) <= 15 := by omega
      obtain ⟨z,hz⟩ : ∃ z,sizeG many p = z := ⟨_,rfl⟩
      have hz12 : 1 <= z /\ z <= 2 := by rw [<- hz];unfold sizeG;omega
      have hnx0 := next_G (f := f) (t := t) (K := K) hpS hpm
      rw [hz] at hnx0
      have HNX0 := hZ0 hnx0;have HZ := hZ0 hz;have HZ12 := hZ0 hz12;have HPM := hZ0 (And.intro hpm (And.intro hpS hK));have HP2 := hZ0 hp2;have HJ := hZ0 hj15
      simp only [hp2] at HPT HDN HOKT HFCT
      have hrep : repT (stG f t many S p K) = rep0 := rfl
      have hdn : (stG f t many S p K).dn = false := rfl
      unfold DonePost at HDN
      rw [hrep,hdn] at HDN
      clear hrep hdn hnx0 hz hz12 hpm hpS hK hj15 hp2
      go_wp2_with fail
      refine HDN.out.mono ?_
      rintro e w4 ⟨A8,c8,rfl,hn8,hk4⟩
      obtain ⟨W4,hW4⟩ : ∃ W4,w4.alloc (.cells (rcell rep0 A8 c8).toArray 46) = W4 := ⟨_,rfl⟩
      have hkW4 : Kept NoF w4 W4 := by rw [<- hW4];(repeat' (first | (with_reducible first | exact kR0 | apply kP0 | apply kN0 | apply kD0 | apply kA0) | (right;simp;done)))
      have hnx := pnext_any (HPT.out.quiet (hk4.then hkW4)) HOKT.out (by show (0 : Nat) <= 1000;decide) 0 (-1)
      unfold NextPost at hnx
      rw [HB.out,HNX0.out] at hnx
      have HNX := hZ0 hnx;have HK4 := hZ0 (hk4.then hkW4)
      unfold rcell rep0 at hW4
      dsimp only [List.length_nil] at hW4
      unfold ragg rcell rep0
      dsimp only [List.length_nil]
      clear hn8 hk4 hkW4 hnx
      go_wp2_with fail
      clear hW4
      refine HNX.out.mono ?_
      rintro e w5 ⟨A9,c9,rfl,hs9,hc9,-,hk5⟩
      obtain ⟨Wz,W6,hWz,hst6,hb6,hk6⟩ := lay_msg w5 { zmsg with k := 9,req := 2,key := K,«to» := t,at' := 9,n := z,oA := A9,oc := c9 }
      obtain ⟨Wy,W7,hWy,hst7,hb7,hk7⟩ := lay_msg W6 (msgG K false none 0 [])
      have HK5 := hZ0 hk5;have HK6 := hZ0 hk6;have HK7 := hZ0 hk7;have HB6 := hZ0 hb6;have HB7 := hZ0 hb7
      have y2 : W6.cell? ⟨w5.heap.size,2,none⟩ = some (.int .i64 2) := hb6.cell 2
      have y5 : W6.cell? ⟨w5.heap.size,5,none⟩ = some (.int .u64 9) := hb6.cell 5
      have y11 : W6.cell? ⟨w5.heap.size,11,none⟩ = some (.string K) := hb6.cell 11
      have hlt6 : w5.heap.size < W6.heap.size := hb6.lt
      unfold xcell zmsg at hst6
      dsimp only [List.length_nil] at hst6
      unfold xcell msgG zmsg at hst7
      dsimp only [List.length_nil] at hst7
      unfold xagg xcell zmsg
      dsimp only [List.length_nil]
      have hz6 : Wy.cell? ⟨w5.heap.size,2,none⟩ = some (.int .i64 2) /\ Wy.cell? ⟨w5.heap.size,5,none⟩ = some (.int .u64 9) /\ Wy.cell? ⟨w5.heap.size,11,none⟩ = some (.string K) := by
       rw [<- hWy]
       exact ⟨(hb6.alloc _).cell 2,(hb6.alloc _).cell 5,(hb6.alloc _).cell 11⟩
      obtain ⟨z2,z5,z11⟩ := hz6
      clear hs9 hc9 hk5 hk6 hk7 hb6 hb7
      obtain ⟨B,hB⟩ : ∃ B,betw al K t = B := ⟨_,rfl⟩
      have HBB := hZ0 hB
      have hBl : B.length <= na := by rw [<- hB,<- HNA.out];exact betw_len _ _ _
      have HBL := hZ0 hBl
      obtain ⟨bx,hbx⟩ : ∃ bx,W6.heap.size = bx := ⟨_,rfl⟩
      obtain ⟨bm,hbm⟩ : ∃ bm,w5.heap.size = bm := ⟨_,rfl⟩
      have hal7 : ∀ W,Kept (fun k => k = bx) W7 W -> Src W 3 A6 na (cells al) /\ W.cell? ⟨bm,7,none⟩ = some (.int .i64 z) /\ W.cell? ⟨bm,11,none⟩ = some (.string K) /\ W.cell? ⟨bm,12,none⟩ = some (.string t) := fun W hW => by
       have h6 := (HB6.out.kept HK7.out (fun z => z)).kept hW (fun e => by have := HB6.out.lt;omega)
       rw [hbm] at h6
       refine ⟨?_,h6.cell 7,h6.cell 11,h6.cell 12⟩
       have g1 := own_kept (own_kept HAL3.out.1 HKC.out (fun _ _ z => z)) HKW.out (fun k hk hf => by have := own_lt HAL.out.1 hk;omega)
       have g2 := own_kept g1 (((HK4.out.then HK5.out).then HK6.out).then HK7.out) (fun _ _ z => z)
       exact Src.of_own (own_kept g2 hW (fun k hk (hf : k = bx) => by
        have h1 := own_lt HAL.out.1 hk
        have h2 := HK3.out.size
        have h3 := HKC.out.size
        have h4 := HKW.out.size
        have h5 := ((HK4.out.then HK5.out).then HK6.out).size
        have h6 := HK23.out
        omega))
      have HAL7 := hZ0 hal7;have HBX := hZ0 hbx;have HBM := hZ0 hbm
      clear hB hBl hal7 hbx hbm
      go_upto_block 6 with fail
      rw [HBX.out,HBM.out]
      clear y2 y5 y11 hlt6 hWz hst6 hWy hst7 z2 z5 z11
      go_cut [] (fun wx => ∃ A10 c10,Has wx bx 34 (xcell (msgG K (decide (z < B.length)) A10 c10 (B.take z))).toArray /\ NewSl 68 2 W7.heap.size wx A10 (B.take z).length c10 (pcells (B.take z)) /\ Kept (fun k => k = bx) W7 wx)
      case first =>
       go_wp2_with fail
       go_loopw [22] (fun v22 wr => ∃ (k : Nat) (A10 : Option Addr) (c10 : Nat),k <= na /\ v22 = .int .i64 k /\ Has wr bx 34 (xcell (msgG K false A10 c10 (betw (al.take k) K t))).toArray /\ (betw (al.take k) K t).length <= z /\ NewSl 68 2 W7.heap.size wr A10 (betw (al.take k) K t).length c10 (pcells (betw (al.take k) K t)) /\ Kept (fun k => k = bx) W7 wr) (fun v22 _ => na - (intOf v22).toNat)
       case atStart => exact ⟨0,none,0,Nat.zero_le _,rfl,by rw [<- HBX.out];exact HB7.out,Nat.zero_le _,⟨⟨rfl,.inl ⟨rfl,rfl⟩⟩,fun k hk => by cases hk⟩,Kept.refl _ _⟩
       case round =>
        obtain ⟨k,A10,c10,hk0,rfl,hbox,hle,hrow,hkk⟩ := hrel
        have HROW := hZ0 hrow;have HKL := hZ0 hkk;have HBOX := hZ0 hbox
        obtain ⟨q,hq⟩ : ∃ q,(betw (al.take k) K t).length = q := ⟨_,rfl⟩
        rw [hq] at hle HROW
        have HQ := hZ0 hq;have HLE := hZ0 hle
        have hna60 := HN6.out
        obtain ⟨hsA,b7,b11,b12⟩ := HAL7.out wr hkk
        have HSA := hZ0 hsA
        clear hrow hkk hq hbox hle hsA
        by_cases hil : k < na
        rotate_left
        ·obtain rfl : k = na := by omega
         have he : betw (al.take k) K t = B := by rw [<- HNA.out,List.take_length];exact HBB.out
         have HE := hZ0 he
         clear he b7 b11 b12
         go_wp2_with fail
         go_meet
         have h1 := HQ.out
         rw [HE.out] at h1
         have h2 : B.take z = B := List.take_of_length_le (by rw [h1];exact HLE.out)
         have h3 : decide (z < B.length) = false := decide_eq_false (by rw [h1];have := HLE.out;omega)
         have h4 := HBOX.out
         have h5 := HROW.out
         rw [HE.out] at h4 h5
         rw [h2,h3,h1]
         exact ⟨A10,c10,h4,h5,HKL.out⟩
        obtain ⟨o,ho⟩ : ∃ o,al[k]? = some o := ⟨_,List.getElem?_eq_getElem (by rw [HNA.out];exact hil)⟩
        have hsn := betw_snoc (f := K) (t := t) ho
        have hpc := fun W (hW : Kept (fun k => k = bx) W7 W) => op_cells (HAL7.out W hW).1 (by omega) k o ho
        have hck := fun W => Keys.rin_any o.key K t W
        obtain ⟨y,hy⟩ : ∃ y,inB o.key K t = y := ⟨_,rfl⟩
        unfold inB at hy
        simp only [hy] at hck
        have HCK := hZ0 hck;have HSN := hZ0 hsn;have HY := hZ0 (show inB o.key K t = y from hy)
        obtain ⟨ad,hA6,had,e0,e1,-⟩ := hpc wr HKL.out
        have hal : ∀ W,Kept (fun k => k = bx) W7 W -> W.cell? (ad.add (k * 3)) = some (.string o.key) /\ W.cell? ⟨(ad.add (k * 3)).block,(ad.add (k * 3)).off + 1,none⟩ = some (.string o.val) := fun W hW => by
         obtain ⟨ad2,e2,-,q0,q1,-⟩ := hpc W hW
         rw [hA6] at e2
         injection e2 with e2
         subst e2
         exact ⟨q0,q1⟩
        have HALC := hZ0 hal;have HO := hZ0 ho
        rw [hA6]
        have HA6 := hZ0 hA6
        clear hck hsn hy hpc hal ho hA6
        cases y
        ·go_wp2_with fail
         go_quiet (exact Calls.quiet_of_same ((HCK.out _).mono fun e w' h => ⟨h.1,h.2.symm⟩))
         have hs2 : betw (al.take (k + 1)) K t = betw (al.take k) K t := by rw [HSN.out,if_neg (by rw [HY.out];decide),List.append_nil]
         have HS2 := hZ0 hs2
         have HBO := hZ0 (HBOX.out.drewN nq);have HRO := hZ0 (HROW.out.kept (show Kept NoF wr (wr.drewN nq) by (repeat' (first | (with_reducible first | exact kR0 | apply kP0 | apply kN0 | apply kD0 | apply kA0) | (right;simp;done)))));have HKO := hZ0 (show Kept (fun k => k = bx) W7 (wr.drewN nq) from HKL.out.then (by (repeat' (first | (with_reducible first | exact kR0 | apply kP0 | apply kN0 | apply kD0 | apply kA0) | (right;simp;done)))))
         clear hs2
         go_wp2
         go_roundw
         case rel => exact ⟨k + 1,A10,c10,by omega,by go_num,by rw [HS2.out];exact HBO.out,by rw [HS2.out,HQ.out];exact HLE.out,by rw [HS2.out,HQ.out];exact HRO.out,HKO.out⟩
         case measure => simp [intOf];omega
        ·have hs2 : betw (al.take (k + 1)) K t = betw (al.take k) K t ++ [prOf o] := by rw [HSN.out,if_pos HY.out]
         have HS2 := hZ0 hs2
         clear hs2
         go_wp2_with fail
         go_quiet (exact Calls.quiet_of_same ((HCK.out _).mono fun e w' h => ⟨h.1,h.2.symm⟩))
         obtain ⟨w8,hw8⟩ : ∃ w8,wr.drewN nq = w8 := ⟨_,rfl⟩
         have hk8 : Kept NoF wr w8 := by rw [<- hw8];(repeat' (first | (with_reducible first | exact kR0 | apply kP0 | apply kN0 | apply kD0 | apply kA0) | (right;simp;done)))
         rw [hw8]
         have hb8 := HBOX.out.kept hk8 (fun z => z)
         have HK8 := hZ0 (show Kept (fun k => k = bx) W7 w8 from HKL.out.then (hk8.mono (fun _ z => z.elim)))
         have HRO := hZ0 (HROW.out.kept hk8)
         have c21 : w8.cell? ⟨bx,21,none⟩ = some (.slice A10 q c10) := by rw [<- HQ.out];exact hb8.cell 21
         have f21 : w8.frozen? ⟨bx,21,none⟩ = false := hb8.frozen 21
         have c4 : w8.cell? ⟨bx,4,none⟩ = some (.bool false) := hb8.cell 4
         have f4 : w8.frozen? ⟨bx,4,none⟩ = false := hb8.frozen 4
         have d7 : w8.cell? ⟨bm,7,none⟩ = some (.int .i64 z) := (HAL7.out w8 HK8.out).2.1
         obtain ⟨e0,e1⟩ := HALC.out w8 HK8.out
         have HB8 := hZ0 hb8
         have hz2 := HZ12.out
         clear hw8 hk8 hb8 b7 b11 b12
         by_cases hqz : z <= q
         ·have hqz2 : (z : Int) <= (q : Int) := by omega
          have HQZ := hZ0 hqz
          go_wp2_with fail
          rw [<- HA6.out]
          go_meet
          obtain ⟨r2,hr2⟩ := betw_take al K t (k + 1)
          have h2 : B.take z = betw (al.take k) K t := by
           rw [<- HBB.out,hr2,HS2.out,List.append_assoc,List.take_append_of_le_length (by rw [HQ.out];exact HQZ.out),List.take_of_length_le (by rw [HQ.out];exact HLE.out)]
          have h3 : decide (z < B.length) = true := decide_eq_true (by
           rw [<- HBB.out,hr2,HS2.out,List.length_append,List.length_append,HQ.out]
           have := HLE.out
           simp
           omega)
          rw [h2,h3,HQ.out]
          have hkf : Kept (fun k => k = bx) w8 (w8.setCell ⟨bx,4,none⟩ (.bool true)) := by (repeat' (first | (with_reducible first | exact kR0 | apply kP0 | apply kN0 | apply kD0 | apply kA0) | (exact .inl rfl) | (right;simp;done)))
          exact ⟨A10,c10,msgG_put4 HB8.out,⟨own_kept HRO.out.1 hkf (fun j hj hf => by have := HRO.out.2 j hj;have := HB7.out.lt;have := HBX.out;omega),HRO.out.2⟩,HK8.out.then hkf⟩
         ·have hqz2 : ¬ (z : Int) <= (q : Int) := by omega
          have HQZ := hZ0 hqz
          have ha0 : ∀ n' o',((w8.drewN n').alloc o').cell? (ad.add (k * 3)) = some (.string o.key) := fun n' o' => (HALC.out _ (HK8.out.then (by (repeat' (first | (with_reducible first | exact kR0 | apply kP0 | apply kN0 | apply kD0 | apply kA0) | (right;simp;done)))))).1
          have ha1 : ∀ n' o',((w8.drewN n').alloc o').cell? ⟨(ad.add (k * 3)).block,(ad.add (k * 3)).off + 1,none⟩ = some (.string o.val) := fun n' o' => (HALC.out _ (HK8.out.then (by (repeat' (first | (with_reducible first | exact kR0 | apply kP0 | apply kN0 | apply kD0 | apply kA0) | (right;simp;done)))))).2
          have ha2 : ∀ n' o',((w8.drewN n').alloc o').cell? ⟨bx,21,none⟩ = some (.slice A10 q c10) := fun n' o' => by rw [<- HQ.out];exact ((HB8.out.drewN n').alloc o').cell 21
          have hd0 : ∀ o',(w8.alloc o').cell? (ad.add (k * 3)) = some (.string o.key) := fun o' => (HALC.out _ (HK8.out.then (by (repeat' (first | (with_reducible first | exact kR0 | apply kP0 | apply kN0 | apply kD0 | apply kA0) | (right;simp;done)))))).1
          have hd1 : ∀ o',(w8.alloc o').cell? ⟨(ad.add (k * 3)).block,(ad.add (k * 3)).off + 1,none⟩ = some (.string o.val) := fun o' => (HALC.out _ (HK8.out.then (by (repeat' (first | (with_reducible first | exact kR0 | apply kP0 | apply kN0 | apply kD0 | apply kA0) | (right;simp;done)))))).2
          have hd2 : ∀ o',(w8.alloc o').cell? ⟨bx,21,none⟩ = some (.slice A10 q c10) := fun o' => by rw [<- HQ.out];exact (HB8.out.alloc o').cell 21
          have HM1 : Hid (q + 1 <= maxLen) := hZ0 (by unfold maxLen;omega)
          have HM2 : Hid ((q + 1) * 32 <= 140737488355328) := hZ0 (by omega)
          have HLT := hZ0 (show bx < W7.heap.size by rw [<- HBX.out];exact HB7.out.lt)
          clear c4 f4
          go_wp2_with fail
          go_region_law (first
           | (with_reducible apply step_append_src elemPairA (.tmp 177) (.tmp 189) (n := q) (xs := pcells (betw (al.take k) K t)) (A := some ⟨_,0,none⟩) (m := 1) (c := 1) (news := [.string o.key,.string o.val])
              rfl
              rfl
              exact (rfl : _ = Value.slice A10 q c10)
              (refine own_kept HRO.out.1 (F := NoF) ?_ (fun _ _ x => x);(repeat' (first | (with_reducible first | exact kR0 | apply kP0 | apply kN0 | apply kD0 | apply kA0) | (right;simp;done))))
              exact (rfl : _ = Value.slice (some ⟨_,0,none⟩) 1 1)
              (refine Src.of_has (t := 68) (cs := #[.string o.key,.string o.val]) ?_ rfl;(repeat (first | with_reducible exact Has.new_at _ _ _ (by simp) | with_reducible apply Has.drew | with_reducible apply Has.drewN | with_reducible apply Has.alloc | (with_reducible apply Has.past <;> (try omega)) )))
              (intro u hu;simp at hu;rcases hu with rfl | rfl <;> rfl)
              exact HM1.out
              exact HM2.out
              intro A11 c11 w9 ho9 hg9 ha9
              have hk9 : Kept (fun j => W7.heap.size <= j) w8 w9 := by refine Kept.grown ?_ hg9 (fun j hj => .inl (HRO.out.2 j hj));(repeat' (first | (with_reducible first | exact kR0 | apply kP0 | apply kN0 | apply kD0 | apply kA0) | (right;simp;done)))
              have hn9 : NewSl 68 2 W7.heap.size w9 A11 (q + 1) c11 (pcells (betw (al.take k) K t) ++ [.string o.key,.string o.val]) := HRO.out.snoc (by have := HK8.out.size;first | (simp;omega) | omega) ho9 ha9
              have hb9 := HB8.out.kept hk9 (fun hj => absurd hj (Nat.not_le_of_lt HLT.out))
              have c219 : w9.cell? ⟨bx,21,none⟩ = some (.slice A10 q c10) := HQ.out ▸ hb9.cell 21
              have f219 : w9.frozen? ⟨bx,21,none⟩ = false := hb9.frozen 21
              have HN9 := hZ0 hn9;have HK9 := hZ0 hk9;have HB9 := hZ0 hb9
              clear ho9 hg9 ha9 hn9 hk9 hb9))
          all_goals
           go_wp2
           go_roundw
           case rel =>
            have hl1 : (betw (al.take k) K t ++ [prOf o]).length = q + 1 := by rw [List.length_append,HQ.out];rfl
            have hkf : Kept (fun k => k = bx) w9 (w9.setCell ⟨bx,21,none⟩ (.slice A11 (q + 1) c11)) := by (repeat' (first | (with_reducible first | exact kR0 | apply kP0 | apply kN0 | apply kD0 | apply kA0) | (exact .inl rfl) | (right;simp;done)))
            refine ⟨k + 1,A11,c11,by omega,by go_num,?_,?_,?_,?_⟩
            ·rw [HS2.out];exact msgG_put21 HB9.out hl1
            ·rw [HS2.out,hl1];have := HQZ.out;omega
            ·rw [HS2.out,hl1,pcells_app]
             exact ⟨own_kept HN9.out.1 hkf (fun j hj hf => by have := HN9.out.2 j hj;have := HLT.out;omega),HN9.out.2⟩
            ·exact (HK8.out.trans HK9.out (fun j hj => .inr hj)).then hkf
           case measure => simp [intOf];omega
      case rest =>
       obtain ⟨wX,hwX⟩ : ∃ wX : World,wX = wc := ⟨_,rfl⟩
       subst hwX
       obtain ⟨A10,c10,hbox,hrow,hkx⟩ := hcut
       obtain ⟨x,hx⟩ : ∃ x,msgG K (decide (z < B.length)) A10 c10 (B.take z) = x := ⟨_,rfl⟩
       rw [hx] at hbox
       have hkr : Kept NoF wR wX := (((HK4.out.then HK5.out).then HK6.out).then HK7.out).trans hkx (fun k hk => .inr (by rw [hk,<- HBX.out];exact ((HK4.out.then HK5.out).then HK6.out).size))
       obtain ⟨t',v,htk,hst'⟩ : ∃ t' v,takeT (stG f t many S p K) 0 x = (t',v) /\ PgS f t many al S t' (j + 1) := by
        obtain ⟨h1,h2,h3⟩ := HPM.out
        rw [<- HS.out] at h2 h3
        have hs := step_G HOK.out.1 HOK.out.2 (f := f) (t := t) (many := many) (p := p) (K := K) h1 h2 h3 A10 c10
        rw [HBB.out,HZ.out,hx,HS.out] at hs
        rcases hs with ⟨K',g1,g2,g3,g4⟩ | ⟨t',g1,g2⟩
        ·refine ⟨_,_,g1,.inl ⟨by have := HP2.out;have := HMA.out;omega,K',by rw [show 2 * (j + 1) = p + 2 by have := HP2.out;omega],by have := HP2.out;omega,by have := HP2.out;omega,by rw [show 2 * (j + 1) = p + 2 by have := HP2.out;omega];exact g4⟩⟩
        ·exact ⟨_,_,g1,.inr ⟨by have := HJ.out;omega,g2⟩⟩
       have hpg : PGood wX (foot X' (stG f t many S p K)) x := by
        rw [<- hx]
        refine ⟨Src.of_own hrow.1,own_cap hrow.1,fun h0 ad e hf => ?_,fun y hy => ?_⟩
        ·have e2 : A10 = some ad := e
         have h1 : (Value.slice A10 (B.take z).length c10).ownBlock = some ad.block := own_blk hrow.1 e2
         have h2 := hrow.2 _ h1
         have h3 := HPT.out.lt hf
         have h4 := (((HK4.out.then HK5.out).then HK6.out).then HK7.out).size
         omega
        ·have h1 : y ∈ B := List.mem_of_mem_take hy
         rw [<- HBB.out] at h1
         unfold betw at h1
         obtain ⟨o,ho,rfl⟩ := List.mem_map.1 h1
         have := HOK.out.2 o (List.mem_filter.1 ho).1
         show o.key.size <= maxLen
         unfold maxLen;omega
       have htake := ptake_any (HPT.out.quiet hkr) HOKT.out 0 x hpg
       rw [htk,HB.out] at htake
       have hok' : TOk t' := by have := HOKT.out.take 0 x;rwa [htk] at this
       have hl := run_loadMsg_has wX bx x hbox
       have HTK := hZ0 htake;have HST' := hZ0 (And.intro hst' hok');have HKR := hZ0 hkr
       obtain ⟨cs,hcs⟩ : ∃ cs,(xcell x).toArray = cs := ⟨_,rfl⟩
       unfold xagg at HTK
       rw [hcs] at HTK hl
       have HCS := hZ0 hcs
       clear hbox hrow hkx hx htk hst' hpg htake hok' hkr hcs
       go_wp2_with fail
       clear hl
       refine HTK.out.mono ?_
       rintro e w11 ⟨rfl,X5,h1,h2,h3,h4⟩
       have HA := hZ0 (And.intro h1 (And.intro h2 (And.intro h3 h4)))
       clear h1 h2 h3 h4
       go_wp2
       go_roundw
       case rel =>
        refine ⟨j + 1,X5,t',by have := HJ.out;omega,by go_num,HA.out.1,HA.out.2.1.trans HB.out,HST'.out.2,HST'.out.1,fun k hk => ?_,?_⟩
        ·rcases HA.out.2.2.1 k hk with e | e
         ·exact HFCT.out k e
         ·exact .inr (Nat.le_trans (Nat.le_trans HKW.out.size HKR.out.size) e)
        ·exact (HKW.out.then (HKR.out.mono (fun _ z => z.elim))).trans HA.out.2.2.2 (fun k hk => HFCT.out k hk)
       case measure => simp [intOf];omega
     ·-- done: the first pairs of those between
      obtain ⟨hd1,nr,hd2⟩ := hst.2
      have hrep : repT tt = ⟨nr,0,9,0,S.take many⟩ := by unfold repT;rw [hd1,<- hd2];rfl
      have hj100 : (j : Int) < 100 := by omega
      unfold DonePost at HDN
      rw [hrep,hd1] at HDN
      dsimp only at HDN
      rw [HNW.out] at HDN
      clear hd1 hd2 hrep hst
      go_wp2_with fail
      refine HDN.out.mono ?_
      rintro e w4 ⟨A8,c8,rfl,hn8,hk4⟩
      have hsm := fun W (hW : Kept NoF w4 W) => rsamePairs_any W A8 A7 c8 c7 (S.take many) (S.take many) (by rw [HNW.out];exact (Src.of_own hn8.1).kept hW (fun _ _ z => z)) (by rw [HNW.out];exact Src.of_own (own_kept (own_kept (own_kept HW7.out.1 HKW.out (fun k hk hf => by have := HW7.out.2 k hk;omega)) hk4 (fun _ _ z => z)) hW (fun _ _ z => z))) (by rw [HNW.out];have h1 := HNW.out;rw [List.length_take] at h1;have := HMA.out;omega)
      rw [decide_eq_true rfl,HNW.out] at hsm
      have HSM := hZ0 hsm
      have HK4 := hZ0 hk4
      have hkw : Kept NoF w w4 := ((HK3.out.then HKC.out).trans HKW.out (fun k hk => .inr (Nat.le_trans HK2.out.size hk.1))).then hk4
      have HKE := hZ0 hkw
      clear hsm hn8 hk4 hkw
      unfold ragg rcell
      dsimp only
      rw [HNW.out]
      go_wp2_with fail
      refine (HSM.out _ (by (repeat' (first | (with_reducible first | exact kR0 | apply kP0 | apply kN0 | apply kD0 | apply kA0) | (right;simp;done))))).mono ?_
      rintro e w5 ⟨rfl,hk5⟩
      have HK5 := hZ0 (Kept.then (F := NoF) (a := w4) (by (repeat' (first | (with_reducible first | exact kR0 | apply kP0 | apply kN0 | apply kD0 | apply kA0) | (right;simp;done)))) hk5)
      clear hk5
      go_wp2_with fail
      refine (HAW.out _).mono ?_
      rintro e w9 ⟨rfl,hk9⟩
      have HE := hZ0 (HEND.out _ (HKE.out.then (HK5.out.then hk9)));clear hk9
      go_wp2
      go_ret
      exact ⟨rfl,HE.out⟩
end Ask
end Go.Proofs.Ytobfdolhgnoedaa

/- Part 17 of what the proof needs. -/
import Derived.Test.YtobfdolhgnoedaaAG00
import Derived.Test.YtobfdolhgnoedaaAG03
import Derived.Test.YtobfdolhgnoedaaAG15
import Derived.Test.YtobfdolhgnoedaaChecked
import Derived.Shelf.SlIter.Nil
import Derived.Shelf.SortM.Plain
import Derived.Shelf.SortM.SortNone
import Derived.Ground.GgzProg
import Derived.Ground.SlgmProg
import Derived.Deep.RegionHeld3
import Derived.Deep.RegionLaw
set_option linter.unusedSimpArgs false
set_option linter.unusedVariables false
set_option maxHeartbeats 32000000
set_option maxRecDepth 100000
namespace Go.Proofs.Ytobfdolhgnoedaa
open Go.RowKit Go.Maps
set_option maxRecDepth 100000
namespace Ops
open Vn
theorem elemOp : Elem Try.prog 27 70 3 40 := by
 obtain ⟨i0,hi,hz0,hz1,hz2⟩ := info_parts (show (Try.prog.info? 70).map (fun i => (i.zero,i.size,i.bytes)) = some (some (.agg #[.string ⟨#[]⟩,.string ⟨#[]⟩,.bool false]),3,40) by kernel_rfl)
 exact ⟨Try.underlying27,⟨i0,_,hi,hz0,hz1,hz2,rfl⟩,by decide⟩
end Ops
end Go.Proofs.Ytobfdolhgnoedaa
namespace Go.Proofs.Ytobfdolhgnoedaa
open Go.RowKit
set_option maxRecDepth 100000
namespace Ops
open Vn
def stepL (f : BL -> Option OpR) (o : OpR) : BL -> Option OpR := fun x => if x = bl o.key then some o else f x
def lastF (m : List OpR) : BL -> Option OpR := m.foldl stepL fun _ => none
def o0 : OpR := ⟨⟨#[]⟩,⟨#[]⟩,false⟩
def normK (m : List OpR) : List BL := Keys.setL (m.map fun o => bl o.key)
def normL (m : List OpR) : List OpR := (normK m).map fun x => (lastF m x).getD o0
theorem lastF_snoc (m : List OpR) (i : Nat) (o : OpR) (h : m[i]? = some o) : lastF (m.take (i + 1)) = stepL (lastF (m.take i)) o := by
 unfold lastF
 rw [List.take_add_one,h,Option.toList_some,List.foldl_append]
 rfl
theorem normK_len (m : List OpR) : (normK m).length <= m.length := by
 have := Keys.set_len (m.map fun o => bl o.key)
 rwa [List.length_map] at this
theorem setB_norm (m : List OpR) : Keys.setB (m.map fun o => o.key) = (normK m).map ofL := by
 unfold Keys.setB normK Keys.bl ofL
 rw [List.map_map]
 congr 2
 congr 1
 funext o
 simp [bl,ByteArray.toList_eq]
def NewOps (w : World) (l : List OpR) (e : Ending) (w' : World) : Prop :=
 ∃ A c,e = .returned (.slice A l.length c) /\ NewSl 70 3 w.heap.size w' A l.length c (cells l) /\ Kept NoF w w'
theorem cells_at {l : List OpR} {i : Nat} {o : OpR} (h : l[i]? = some o) : cells (l.take (i + 1)) = cells (l.take i) ++ [.string o.key,.string o.val,.bool o.del] := by
 rw [List.take_add_one,h,Option.toList_some]
 unfold cells
 rw [List.flatMap_append]
 simp [cell]
def oarr (o : OpR) : Array Value := #[.string o.key,.string o.val,.bool o.del]
theorem rnorm_any (w : World) (A : Option Addr) (c : Nat) (m : List OpR) (hm : Src w 3 A m.length (cells m)) (hlen : m.length <= 1000) :
  Calls Try.prog 24 #[.slice A m.length c] w (NewOps w (normL m)) := by
 have HM := hZ0 hm;clear hm
 go_enter Try.func24,Try.ntmps24
 go_wp2_with fail
 go_loopw [3,4] (fun v3 v4 wr => ∃ (i : Nat) (A' : Option Addr) (c' : Nat),i <= m.length /\ v4 = .int .i64 i /\ v3 = .slice A' i c' /\ NewSl 9 1 w.heap.size wr A' i c' (Keys.strs ((m.take i).map fun o => o.key)) /\ Kept NoF w wr) (fun _ v4 _ => m.length - (intOf v4).toNat)
 case atStart => exact ⟨0,none,0,Nat.zero_le _,rfl,rfl,⟨⟨rfl,.inl ⟨rfl,rfl⟩⟩,fun k hk => by cases hk⟩,Kept.refl _ _⟩
 case round =>
  obtain ⟨i,A5,c5,hi,rfl,rfl,hrow,hk⟩ := hrel
  have hsz := hk.size
  have HROW := hZ0 (And.intro hrow hsz);clear hrow hsz
  have HK := hZ0 hk;clear hk
  by_cases hil : i < m.length
  ·obtain ⟨o,ho⟩ : ∃ o,m[i]? = some o := ⟨_,List.getElem?_eq_getElem hil⟩
   obtain ⟨ad,rfl,hlt,e0,e1,e2⟩ := op_cells (HM.out.kept HK.out (fun _ _ x => x)) (by omega) i o ho
   have hsn : Keys.strs ((m.take (i + 1)).map fun o => o.key) = Keys.strs ((m.take i).map fun o => o.key) ++ [.string o.key] := by
    rw [List.take_add_one,ho]
    simp [Keys.strs]
   have HSN := hZ0 hsn;clear hsn ho
   have hm1 : i + 1 <= maxLen := by unfold maxLen;omega
   have hm2 : (i + 1) * 16 <= 140737488355328 := by omega
   have HM1 := hZ0 hm1;clear hm1
   have HM2 := hZ0 hm2;clear hm2
   obtain ⟨k0,v0,d0⟩ := o
   dsimp only at e0 e1 e2 HSN
   go_wp2_with (at_builtin;refine list_append_src Keys.elemStr (.tmp 15) (.tmp 21) rfl rfl (Value.slice A5 i c5) rfl ((HROW.out.1.kept ((Kept.refl _ _).alloc _)).1) 1 rfl (Src.of_has (m := 1) (cs := #[.string k0]) (Has.new_at _ 9 _ (by simp)) rfl) (by intro u hu;simp at hu;rcases hu with rfl;rfl) HM1.out HM2.out ?_;intro A6 c6 w6 ho6 hg6 ha6)
   have hn6 : NewSl 9 1 w.heap.size w6 A6 (i + 1) c6 (Keys.strs ((m.take (i + 1)).map fun o => o.key)) := by
    rw [HSN.out]
    exact HROW.out.1.snoc (by simp;have := HROW.out.2;omega) ho6 ha6
   have hk6 : Kept NoF w w6 := (HK.out.alloc _).grown hg6 (fun k hk => .inr (HROW.out.1.2 k hk))
   clear ho6 hg6 ha6
   have HN6 := hZ0 (And.intro hn6 hk6);clear hn6 hk6
   go_wp2
   go_roundw
   case rel => exact ⟨i + 1,A6,c6,by omega,by go_num,rfl,HN6.out.1,HN6.out.2⟩
   case measure => simp [intOf];omega
  ·obtain rfl : i = m.length := by omega
   rw [List.take_length] at HROW
   have hset := Keys.rset_any wr A5 c5 (m.map fun o => o.key) (by rw [List.length_map];exact Src.of_own HROW.out.1.1) (by rw [List.length_map];exact hlen)
   rw [List.length_map,setB_norm,List.length_map] at hset
   have HSET := hZ0 hset;clear hset
   obtain ⟨w2,hw2⟩ : ∃ w2 : World,w2 = wr := ⟨_,rfl⟩
   subst hw2
   go_wp2_with fail
   refine HSET.out.mono ?_
   rintro e w3 ⟨A3,c3,rfl,hown,hnw,hB⟩
   have hk3 : Kept NoF w w3 := HK.out.then (Kept.of_below hB (fun k hk _ => hk))
   have hsrc := Src.of_own hown
   have hnl := normK_len m
   have hOUT : ∀ i x,(normK m)[i]? = some x -> (normL m)[i]? = some ((lastF m x).getD o0) := fun i x h => by unfold normL;rw [List.getElem?_map,h];rfl
   have hOL : (normL m).length = (normK m).length := by unfold normL;rw [List.length_map]
   clear hown hnw hB
   obtain ⟨ks,hks⟩ : ∃ ks,normK m = ks := ⟨_,rfl⟩
   rw [hks] at hsrc hnl hOUT hOL
   rw [show (normK m).length = ks.length by rw [hks]]
   obtain ⟨out,hout⟩ : ∃ out,normL m = out := ⟨_,rfl⟩
   rw [hout] at hOUT hOL
   have HOO := hZ0 hout;clear hks hout
   obtain ⟨n,hn⟩ : ∃ n,ks.length = n := ⟨_,rfl⟩
   rw [hn] at hsrc hnl hOL ⊢
   have HMS := hZ0 (HM.out.kept hk3 (fun _ _ x => x))
   have HSRC := hZ0 hsrc;clear hsrc
   have HN := hZ0 hn;clear hn
   have HOUT := hZ0 hOUT;clear hOUT
   have HOL := hZ0 hOL;clear hOL
   have HK3 := hZ0 hk3;clear hk3 HSET HROW HK
   go_wp2_with fail
   go_loopw [5,6] (fun v5 v6 wr => ∃ (i : Nat) (A' : Option Addr) (c' : Nat),i <= n /\ v6 = .int .i64 i /\ v5 = .slice A' i c' /\ NewSl 70 3 w3.heap.size wr A' i c' (cells (out.take i)) /\ Kept NoF w3 wr) (fun _ v6 _ => n - (intOf v6).toNat)
   case atStart => exact ⟨0,none,0,Nat.zero_le _,rfl,rfl,⟨⟨rfl,.inl ⟨rfl,rfl⟩⟩,fun k hk => by cases hk⟩,Kept.refl _ _⟩
   case round =>
    obtain ⟨i,A5,c5,hi,rfl,rfl,hrow,hk⟩ := hrel
    have hsz := hk.size
    have HROW := hZ0 (And.intro hrow hsz);clear hrow hsz
    have HK := hZ0 hk;clear hk
    by_cases hil : i < n
    ·obtain ⟨x,hx⟩ : ∃ x,ks[i]? = some x := ⟨_,List.getElem?_eq_getElem (by have := HN.out;omega)⟩
     have hox := HOUT.out i x hx
     have hnx : (ks.map ofL)[i]? = some (ofL x) := by rw [List.getElem?_map,hx];rfl
     have HNX := hZ0 hnx;clear hnx hx
     have hcs := cells_at hox
     have HCS := hZ0 hcs;clear hcs hox
     obtain ⟨wo,hwo⟩ : ∃ wo : World,wo = wr := ⟨_,rfl⟩
     subst hwo
     go_wp2_with fail
     go_loopw [8] (fun v8 wq => ∃ (k : Nat) (q : OpR),k <= m.length /\ v8 = .int .i64 k /\ (lastF (m.take k) x).getD o0 = q /\ Has wq wo.heap.size 70 #[.string q.key,.string q.val,.bool q.del] /\ Kept NoF wo wq) (fun v8 _ => m.length - (intOf v8).toNat)
     case atStart => exact ⟨0,o0,Nat.zero_le _,rfl,rfl,(Has.new wo 70 #[.string ⟨#[]⟩,.string ⟨#[]⟩,.bool false]),by (repeat' (first | (with_reducible first | exact kR0 | apply kP0 | apply kN0 | apply kD0 | apply kA0) | (right;simp;done)))⟩
     case round =>
      obtain ⟨k,q,hk,rfl,hq,hb,hkw⟩ := hrel
      have hk3r : Kept NoF w3 wr := HK.out.then hkw
      by_cases hkl : k < m.length
      ·obtain ⟨o,ho⟩ : ∃ o,m[k]? = some o := ⟨_,List.getElem?_eq_getElem hkl⟩
       obtain ⟨ad,rfl,hlt,e0,e1,e2⟩ := op_cells (HMS.out.kept hk3r (fun _ _ x => x)) (by omega) k o ho
       obtain ⟨td,rfl,_,f0⟩ := Keys.str_cells (HSRC.out.kept hk3r (fun _ _ x => x)) (by omega) i (ofL x) HNX.out
       have hst := congrFun (lastF_snoc m k o ho) x
       unfold stepL at hst
       have hte := tl_eq o.key (ofL x)
       have g0 := hb.cell 0
       have g1 := hb.cell 1
       have g2 := hb.cell 2
       simp only [List.getElem?_toArray,List.getElem?_cons_zero,List.getElem?_cons_succ] at g0 g1 g2
       have hb0 := hb.frozen 0
       have hb1 := hb.frozen 1
       have hb2 := hb.frozen 2
       have HB := hZ0 (And.intro hb hkw);clear hb hkw hk3r
       clear ho
       obtain ⟨k1,v1,d1⟩ := o
       dsimp only at *
       by_cases he : k1 = ofL x
       ·have hxe : x = bl k1 := by rw [he,bl_ofL]
        rw [if_pos hxe] at hst
        rw [decide_eq_true he] at hte
        have HST := hZ0 hst;clear hst hxe he
        go_wp2_with fail
        go_quiet (fail)
        go_wp2_with fail
        go_roundw
        case rel => exact ⟨k + 1,⟨k1,v1,d1⟩,by omega,by go_num,by rw [HST.out];rfl,by ((repeat (first | with_reducible exact HB.out.1 | with_reducible apply Has.put_of | with_reducible apply Has.past | with_reducible apply Has.drewN | with_reducible apply Has.drew | with_reducible apply Has.alloc)) <;> first | omega | rfl),HB.out.2.trans (G := fun j => j = wo.heap.size) (by (repeat' (first | (with_reducible first | exact kR0 | apply kP0 | apply kN0 | apply kD0 | apply kA0) | (exact Or.inl rfl) | (right;simp;done)))) (fun j hj => .inr (by rw [hj];exact Nat.le_refl _))⟩
        case measure => simp [intOf];omega
       ·have hxe : ¬ x = bl k1 := fun e => he (by rw [e,ofL_bl])
        rw [if_neg hxe] at hst
        rw [decide_eq_false he] at hte
        have HST := hZ0 hst;clear hst hxe he
        go_wp2_with fail
        go_quiet (fail)
        go_wp2_with fail
        go_roundw
        case rel => exact ⟨k + 1,q,by omega,by go_num,by rw [HST.out];exact hq,by ((repeat (first | with_reducible exact HB.out.1 | with_reducible apply Has.put_of | with_reducible apply Has.past | with_reducible apply Has.drewN | with_reducible apply Has.drew | with_reducible apply Has.alloc)) <;> first | omega | rfl),HB.out.2.then (by (repeat' (first | (with_reducible first | exact kR0 | apply kP0 | apply kN0 | apply kD0 | apply kA0) | (right;simp;done))))⟩
        case measure => simp [intOf];omega
      ·obtain rfl : k = m.length := by omega
       rw [List.take_length] at hq
       rw [hq] at HCS
       have hb0 := hb.cell 0
       have hb1 := hb.cell 1
       have hb2 := hb.cell 2
       simp only [List.getElem?_toArray,List.getElem?_cons_zero,List.getElem?_cons_succ] at hb0 hb1 hb2
       have hro := HROW.out.1.kept hkw
       have hk3r : Kept NoF w3 wr := HK.out.then hkw
       have HR := hZ0 (And.intro hro (And.intro hk3r hk3r.size));clear hro hk3r hb hkw hq
       obtain ⟨k1,v1,d1⟩ := q
       dsimp only at *
       have hm1 : i + 1 <= maxLen := by unfold maxLen;omega
       have hm2 : (i + 1) * 40 <= 140737488355328 := by omega
       have HM1 := hZ0 hm1;clear hm1
       have HM2 := hZ0 hm2;clear hm2
       go_wp2_with (at_builtin;refine list_append_src elemOp (.tmp 52) (.tmp 54) rfl rfl (Value.slice A5 i c5) rfl ((HR.out.1.kept ((Kept.refl _ _).alloc _)).1) 1 rfl (Src.of_has (m := 1) (cs := #[.string k1,.string v1,.bool d1]) (Has.new_at _ 70 _ (by simp)) rfl) (by intro u hu;simp at hu;rcases hu with rfl | rfl | rfl <;> rfl) HM1.out HM2.out ?_;intro A6 c6 w6 ho6 hg6 ha6)
       have hn6 : NewSl 70 3 w3.heap.size w6 A6 (i + 1) c6 (cells (out.take (i + 1))) := by
        rw [HCS.out]
        exact HR.out.1.snoc (by simp;have := HR.out.2.2;omega) ho6 ha6
       have hk6 : Kept NoF w3 w6 := (HR.out.2.1.alloc _).grown hg6 (fun k hk => .inr (HR.out.1.2 k hk))
       clear ho6 hg6 ha6
       have HN6 := hZ0 (And.intro hn6 hk6);clear hn6 hk6
       go_wp2
       go_roundw
       case rel => exact ⟨i + 1,A6,c6,by omega,by go_num,rfl,HN6.out.1,HN6.out.2⟩
       case measure => simp [intOf];omega
    ·obtain rfl : i = n := by omega
     go_wp2
     go_ret
     have h1 := HROW.out.1
     rw [List.take_of_length_le (by rw [HOL.out];exact Nat.le_refl _)] at h1
     refine ⟨A5,c5,by rw [HOO.out,HOL.out];rfl,?_,HK3.out.then HK.out⟩
     rw [HOO.out,HOL.out]
     exact ⟨h1.1,fun k hk => Nat.le_trans HK3.out.size (h1.2 k hk)⟩
end Ops
namespace Ops
open Vn
def prOf (o : OpR) : PairR := ⟨o.key,o.val⟩
theorem normL_len (m : List OpR) : (normL m).length <= m.length := by
 unfold normL
 rw [List.length_map]
 exact normK_len m
end Ops
namespace Ops
open Vn
theorem lastF_key {m : List OpR} {x : BL} {o : OpR} (h : lastF m x = some o) : bl o.key = x /\ o ∈ m := by
 suffices ∀ (m : List OpR) (g : BL -> Option OpR),m.foldl stepL g x = some o -> g x = some o \/ (bl o.key = x /\ o ∈ m) by
  rcases this m _ h with h1 | h1
  ·cases h1
  ·exact h1
 intro m
 induction m with
 | nil => intro g h;exact .inl h
 | cons p m ih =>
  intro g h
  rcases ih _ h with h1 | ⟨h1,h2⟩
  ·unfold stepL at h1
   split at h1
   ·rename_i e
    injection h1 with h1
    subst h1
    exact .inr ⟨e.symm,by simp⟩
   ·exact .inl h1
  ·exact .inr ⟨h1,List.mem_cons_of_mem _ h2⟩
theorem lastF_some {m : List OpR} {x : BL} (h : x ∈ m.map fun o => bl o.key) : ∃ o,lastF m x = some o := by
 suffices ∀ (m : List OpR) (g : BL -> Option OpR),((∃ o,g x = some o) \/ x ∈ m.map fun o => bl o.key) -> ∃ o,m.foldl stepL g x = some o from this m _ (.inr h)
 intro m
 induction m with
 | nil =>
  intro g h
  rcases h with h | h
  ·exact h
  ·cases h
 | cons p m ih =>
  intro g h
  rw [List.foldl_cons]
  refine ih _ ?_
  by_cases e : x = bl p.key
  ·exact .inl ⟨p,by unfold stepL;rw [if_pos e]⟩
  ·rcases h with ⟨o,h⟩ | h
   ·exact .inl ⟨o,by unfold stepL;rw [if_neg e];exact h⟩
   ·rw [List.map_cons,List.mem_cons] at h
    rcases h with h | h
    ·exact absurd h e
    ·exact .inr h
theorem normK_mem {m : List OpR} {x : BL} : x ∈ normK m ↔ x ∈ m.map fun o => bl o.key := Keys.mem_set _ _
end Ops
end Go.Proofs.Ytobfdolhgnoedaa

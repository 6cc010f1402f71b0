/- Part 20 of what the proof needs. -/
import Derived.Test.YtgbigpdiacjbgaaGreatKO03
import Derived.Test.YtgbigpdiacjbgaaGreatKO05
import Derived.Test.YtgbigpdiacjbgaaGreatKO18
set_option linter.unusedSimpArgs false
set_option linter.unusedVariables false
set_option maxHeartbeats 32000000
set_option maxRecDepth 100000
namespace Go.Proofs.YtgbigpdiacjbgaaGreat
open Go.Shelf Go.Sort Go.RowKit Go.Maps Go.Proofs
set_option maxRecDepth 100000
namespace Nrm
open Ops
abbrev LEnv := BL -> Option OpR
def encO (o : OpR) : DataW Unit := .agg [.lit (.string (bl o.key)),.lit (.string (bl o.val)),.lit (.bool o.del)]
theorem encO_inj {o p : OpR} (h : encO o = encO p) : o = p := by
 obtain ⟨a,b,c⟩ := o
 obtain ⟨a',b',c'⟩ := p
 unfold encO at h
 injection h with h
 injection h with h1 h
 injection h with h2 h
 injection h with h3 h
 injection h1 with h1
 injection h1 with h1
 injection h2 with h2
 injection h2 with h2
 injection h3 with h3
 injection h3 with h3
 have k1 : a = a' := bl_inj h1
 have k2 : b = b' := bl_inj h2
 have k3 : c = c' := h3
 rw [k1,k2,k3]
def ofCells : List Value -> Option OpR
 | [.string k,.string v,.bool d] => some ⟨k,v,d⟩
 | _ => none
theorem ofCells_inv {l : List Value} {o : OpR} (h : ofCells l = some o) : l = [.string o.key,.string o.val,.bool o.del] := by
 unfold ofCells at h
 split at h
 ·injection h with h
  subst h
  rfl
 ·cases h
def opElem : Value -> Option (DataW Unit × List MemPlace)
 | .agg cs => (ofCells cs.toList).map fun o => (encO o,[])
 | _ => none
theorem opElem_mk (o : OpR) : opElem (oagg o) = some (encO o,[]) := rfl
theorem opElem_inv {v : Value} {y : DataW Unit × List MemPlace} (h : opElem v = some y) : ∃ o : OpR,v = oagg o := by
 cases v <;> simp only [opElem] at h
 case agg cs =>
  cases ho : ofCells cs.toList with
  | none => rw [ho] at h;cases h
  | some o =>
   have := ofCells_inv ho
   obtain ⟨l⟩ := cs
   simp only at this
   subst this
   exact ⟨o,rfl⟩
 all_goals cases h
def OMap (w : World) (b n : Nat) (f : LEnv) : Prop :=
 ∃ D : DataW Unit,w.ownsMap Tryz.prog 9 opElem b n D /\ ∀ x : BL,has D (.string x) = (f x).isSome /\ ∀ o,f x = some o -> D.atKey (.string x) (.lit (.bool false)) = encO o
theorem OMap.lt {w : World} {b n : Nat} {m : LEnv} (h : OMap w b n m) : b < w.heap.size := by
 obtain ⟨D,h,_⟩ := h
 exact h.lt
theorem OMap.kept {F : Nat -> Prop} {w w' : World} {b n : Nat} {m : LEnv} (h : OMap w b n m) (hk : Kept F w w') (hf : ¬ F b) : OMap w' b n m := by
 obtain ⟨D,ho,hD⟩ := h
 have hlt := ho.lt
 obtain ⟨es,clock,hb,hF,hs,e⟩ := ho
 exact ⟨D,⟨es,clock,(hk.block b hlt hf).trans hb,hF,hs,e⟩,hD⟩
theorem OMap.made (w : World) : OMap (w.alloc (.map #[] 0)) w.heap.size 0 (fun _ => none) :=
 ⟨_,World.ownsMap_made w _ _ _,fun k => ⟨rfl,fun o h => by cases h⟩⟩
theorem OMap.store {w : World} {b n : Nat} {m : LEnv} (h : OMap w b n m) (hn : n < maxLen) (o : OpR) (hk : o.key.size <= maxLen) :
  ∃ w',(Instr.mapUpdate 141 (.map (some b)) (.string o.key) (oagg o)).run Tryz.prog w = .ok () w' /\ OMap w' b (n + 1) (stepL m o) /\ Kept (fun i => i = b) w w' := by
 obtain ⟨D,ho,hD⟩ := h
 obtain ⟨w',hrun,ho',hg⟩ := ho.update strKeyed Tryz.underlying141 hn (strKey hk) (opElem_mk o)
 refine ⟨w',hrun,⟨_,ho',?_⟩,(Kept.refl _ _).grownBy hg fun i hi => by injection hi with hi;exact .inl hi.symm⟩
 intro x
 have hm : IsMap D := ho.isMap
 have hl : WideAt.IsKeyLit (.string (bl o.key)) := by trivial
 by_cases e : x = bl o.key
 ·subst e
  rw [has_put_same hm hl,atKey_put_same hm hl]
  unfold stepL
  rw [if_pos rfl]
  exact ⟨rfl,fun p hp => by injection hp with hp;rw [hp]⟩
 ·have hne : (Lit.string x) ≠ .string (bl o.key) := fun h => e (by injection h)
  rw [has_put_other hne,atKey_put_other hne]
  have := hD x
  unfold stepL
  rw [if_neg e]
  exact this
theorem own_ne_map {w : World} {base e sz n b k m : Nat} {v : Value} {xs : List Value} {R : Value -> Option (DataW Unit × List MemPlace)} {D : DataW Unit} (h : w.ownsRow base e sz v n xs) (hm : w.ownsMap Tryz.prog k R b m D) : v.ownBlock ≠ some b := by
 obtain ⟨es,clock,hb,_⟩ := hm
 rcases h.2 with ⟨rfl,_⟩ | ⟨g,cap,cur,rfl,_,hg,_⟩
 ·simp [Value.ownBlock]
 ·intro e
  obtain rfl : g = b := by simpa [Value.ownBlock] using e
  rw [hg] at hb
  cases hb
theorem elemRow : Elem Tryz.prog 144 145 3 40 := by
 obtain ⟨i0,hi,hz0,hz1,hz2⟩ := info_parts (show (Tryz.prog.info? 145).map (fun i => (i.zero,i.size,i.bytes)) = some (some (.agg #[.string ⟨#[]⟩,.string ⟨#[]⟩,.bool false]),3,40) by kernel_rfl)
 exact ⟨Tryz.underlying144,⟨i0,_,hi,hz0,hz1,hz2,rfl⟩,by decide⟩
theorem encF_len (f : LEnv) (x : BL) : (encF f x).length = 3 := rfl
theorem encF_one (f : LEnv) (x : BL) : ∀ v ∈ encF f x,v.oneCell' = true := by
 intro v hv
 unfold encF cell at hv
 simp at hv
 rcases hv with rfl | rfl | rfl <;> rfl
theorem flat_len (f : LEnv) (l : List BL) : (l.flatMap (encF f)).length = l.length * 3 := by
 induction l with
 | nil => rfl
 | cons a l ih => rw [List.flatMap_cons,List.length_append,encF_len,ih,List.length_cons,Nat.succ_mul];omega
theorem sort_rows (w : World) (base : Nat) (A : Option Addr) (c : Nat) (f : LEnv) (L : List BL) (h : w.ownsRow base 145 3 (.slice A L.length c) L.length (L.flatMap (encF f))) (hlen : L.length <= 1000000) :
  Calls Tryz.prog 82 #[.slice A L.length c,.func (.func 83) #[] #[]] w fun e w' => e = .returned (.tuple #[]) /\
   w'.ownsRow base 145 3 (.slice A L.length c) L.length ((L.mergeSort leB).flatMap (encF f)) /\ Kept (fun k => (Value.slice A L.length c).ownBlock = some k) w w' := by
 rcases h.2 with ⟨hv,hn⟩ | ⟨g,cap,cur,hv,hbase,hb,h1,h2,h3,h4⟩
 ·have hl : L = [] := List.eq_nil_of_length_eq_zero hn
  subst hl
  refine (sortF_none A c _ w).mono ?_
  rintro e w' ⟨rfl,rfl⟩
  exact ⟨rfl,by simpa using h,Kept.refl _ _⟩
 ·injection hv with hA hn hc
  subst hA
  subst hc
  have eg : ∀ args w,(callFunc 83 args).run Tryz.prog w = .ok (.enter 83 args) w := enters_of Tryz.func83 (by kernel_rfl) rfl
  have hfl : (flatK (encF f) 3 L.toArray) = (L.flatMap (encF f)).toArray := flatK_list (encF f) 3 (by decide) (encF_len f) L
  have hH : HoldsK (encF f) 3 w g 0 L.toArray := by
   unfold HoldsK
   rw [hfl]
   exact holds_of_blockK hb (by rw [flat_len];exact h4)
  have hg : g < w.heap.size := (Array.getElem?_eq_some_iff.1 hb).1
  have hc := AnyQ.slices_SortFunc_total sortFA 3 Tryz.isAgg145 Tryz.sizeOf145 (encF f) (encF_len f) (encF_one f) cmpB swo_cmp 83 #[] g 0 c L.toArray w eg (cmp_lays f g 0 _ w) hH hg (by simp;omega) tot_cmp
  have e1 : L.toArray.size = L.length := by simp
  rw [e1] at hc
  refine Calls.mono hc ?_
  rintro e w' ⟨rfl,n,os,rfl⟩
  have e2 : L.toArray.toList = L := rfl
  rw [e2,sort_cmp]
  have hfl2 : (flatK (encF f) 3 (L.mergeSort leB).toArray) = ((L.mergeSort leB).flatMap (encF f)).toArray := flatK_list (encF f) 3 (by decide) (encF_len f) _
  unfold sortWorldK putRowK
  rw [hfl2]
  refine ⟨rfl,ownsRow_sortedK (by rw [flat_len,List.length_mergeSort]) hbase hb h1 h2 h3,(Kept.refl _ _).grownBy (grownBy_sortedK _) fun k hk => by injection hk with hk;subst hk;exact .inl rfl⟩
end Nrm
namespace Nrm
open Ops Vn
theorem rowOf_last {m : List OpR} {x : BL} {o : OpR} (h : lastF m x = some o) : rowOf (lastF m) x = o := by
 have hk := (lastF_key h).1
 unfold rowOf
 rw [h,<- hk,ofL_bl]
 rfl
theorem rows_norm (m : List OpR) : (normK m).flatMap (encF (lastF m)) = cells (normL m) := by
 unfold cells normL
 rw [List.flatMap_map]
 suffices ∀ ks : List BL,(∀ x ∈ ks,x ∈ normK m) -> ks.flatMap (encF (lastF m)) = ks.flatMap fun x => cell ((lastF m x).getD o0) from this _ fun _ h => h
 intro ks
 induction ks with
 | nil => intro _;rfl
 | cons x ks ih =>
  intro h
  rw [List.flatMap_cons,List.flatMap_cons,ih fun y hy => h y (List.mem_cons_of_mem _ hy)]
  obtain ⟨o,ho⟩ := lastF_some (normK_mem.1 (h x (by simp)))
  unfold encF
  rw [rowOf_last ho,ho]
  rfl
theorem norm_any (w : World) (A : Option Addr) (c : Nat) (m : List OpR) (hm : Src w 3 A m.length (cells m)) (hlen : m.length <= 1000) (hg : ∀ o ∈ m,o.key.size <= maxLen) :
  Calls Tryz.prog 50 #[.slice A m.length c] w (NewOps w (normL m)) := by
 have hmk := @run_makeMap Tryz.prog
 have HL := hZ0 hm;clear hm
 have HGO := hZ0 hg;clear hg
 have HK0 := hZ0 ((Kept.refl NoF w).alloc (.map #[] 0))
 have HM0 := hZ0 (OMap.made w)
 go_enter Tryz.func50,Tryz.ntmps50
 go_wp2_with fail
 clear hmk
 obtain ⟨W0,hW0⟩ : ∃ W0,w.alloc (.map #[] 0) = W0 := ⟨_,rfl⟩
 rw [hW0] at HM0 HK0
 rw [hW0]
 clear hW0
 go_loopw [15] (fun v15 wr => ∃ i : Nat,i <= m.length /\ v15 = .int .i64 i /\ OMap wr w.heap.size i (lastF (m.take i)) /\ Kept NoF w wr) (fun v15 _ => m.length - (intOf v15).toNat)
 case atStart => exact ⟨0,Nat.zero_le _,rfl,HM0.out,HK0.out⟩
 case round =>
  obtain ⟨i,hi,rfl,hmp,hk⟩ := hrel
  have HK := hZ0 hk;clear hk
  by_cases hil : i < m.length
  ·obtain ⟨o,ho⟩ : ∃ o,m[i]? = some o := ⟨_,List.getElem?_eq_getElem hil⟩
   obtain ⟨ad,rfl,hlt,e0,e1,e2⟩ := op_cells (HL.out.kept HK.out (fun _ _ x => x)) (by omega) i o ho
   obtain ⟨w2,hst,hm2,hk2⟩ := (hmp.kept ((Kept.refl NoF wr).alloc (.cells (oarr o) 143)) (fun x => x)).store (by unfold maxLen;omega) o (HGO.out o (List.mem_of_getElem? ho))
   rw [<- lastF_snoc m i o ho] at hm2
   have hk3 : Kept NoF w w2 := (HK.out.alloc _).trans hk2 (fun j hj => .inr (by rw [hj];exact Nat.le_refl _))
   have HM2 := hZ0 (And.intro hm2 hk3);clear hm2 hk3 hk2 ho hmp
   obtain ⟨k0,v0,d0⟩ := o
   dsimp only [oagg,oarr] at *
   go_wp2_with fail
   go_roundw
   case rel => exact ⟨i + 1,by omega,by go_num,HM2.out.1,HM2.out.2⟩
   case measure => simp [intOf];omega
  ·obtain rfl : i = m.length := by omega
   rw [List.take_length] at hmp
   obtain ⟨D,hown,hD⟩ := hmp
   have HD := hZ0 hD;clear hD
   obtain ⟨w1,hw1⟩ : ∃ w1 : World,w1 = wr := ⟨_,rfl⟩
   subst hw1
   go_wp2_with (first
    | (at_range;refine wpList_range_own _ rfl _ 141 rfl 9 143 strKeyed Tryz.underlying141 _ w.heap.size _ _ rfl hown ?_;intro w0 hrg0 hg0 hs0)
    | go_in)
   go_frame
   have hDs := hown.size_le
   have hsz := HK.out.size
   go_loopw [6] (fun v6 wz => ∃ (left : Lit -> Bool) (cnt : Nat) (ss : List BL) (A' : Option Addr) (c' : Nat),wz.ranges Tryz.prog 9 opElem w.heap.size w1.heap.size m.length D left cnt /\ ss.length + cnt <= Maps.size D /\
     v6 = .slice A' ss.length c' /\ NewSl 145 3 w.heap.size wz A' ss.length c' (ss.flatMap (encF (lastF m))) /\ Collected D left ss /\ Kept NoF w wz)
    (fun _ wz => wz.rangeLeft w.heap.size w1.heap.size)
   case atStart =>
    exact ⟨_,_,[],none,0,hrg0,by simp,rfl,⟨⟨rfl,.inl ⟨rfl,rfl⟩⟩,fun k hk => by cases hk⟩,Collected.start D,HK.out.grownBy hg0 (fun k hk => by cases hk)⟩
   case round =>
    obtain ⟨left,cnt,ss,A',c',hrg,hcs,rfl,hrow,hC,hk⟩ := hrel
    have HKZ := hZ0 hk;clear hk
    have hsz2 := HKZ.out.size
    have HROW := hZ0 hrow;clear hrow
    have HC := hZ0 hC;clear hC
    go_wp2_with (first
     | (at_next;refine wpList_next_ranges _ rfl _ rfl 9 strKeyed opElem encStr (fun o : OpR => oagg o) (fun key kl hk => by obtain ⟨x,hx,_⟩ := Maps.keyOf_str Tryz.underlying9 hk;exact ⟨x,hx⟩) (fun v y hv => opElem_inv hv) w.heap.size w1.heap.size m.length _ _ _ rfl hrg ?_ ?_)
     | go_in)
    ·intro hc0 hl0
     go_wp2_with fail
     refine (sort_rows _ 0 A' c' (lastF m) ss HROW.out.1 (by omega)).mono ?_
     rintro e w2 ⟨rfl,hrow2,hk2⟩
     have hmem : ∀ x,x ∈ ss ↔ x ∈ m.map fun o => bl o.key := by
      intro x
      rw [HC.out.2 x,(HD.out x).1,hl0]
      constructor
      ·intro h
       obtain ⟨o,ho⟩ := Option.isSome_iff_exists.1 h.1
       obtain ⟨h1,h2⟩ := lastF_key ho
       exact List.mem_map.2 ⟨o,h2,h1⟩
      ·intro h
       obtain ⟨o,ho⟩ := lastF_some h
       rw [ho]
       exact ⟨rfl,rfl⟩
     have hset : ss.mergeSort leB = normK m := Keys.set_perm HC.out.1 hmem
     rw [hset,rows_norm] at hrow2
     have hnl : (normL m).length = ss.length := by
      unfold normL
      rw [List.length_map,<- hset,List.length_mergeSort]
     have hsrc := Src.of_own hrow2
     have hk3 : Kept NoF w w2 := HKZ.out.trans hk2 (fun k hk => .inr (HROW.out.2 k hk))
     have hcs2 : ss.length <= 1000 := by omega
     clear hrow2 hk2 hmem hset hrg hcs hl0 hc0
     obtain ⟨out,hout⟩ : ∃ out,normL m = out := ⟨_,rfl⟩
     rw [hout] at hsrc hnl
     have HOO := hZ0 hout;clear hout
     obtain ⟨n,hn⟩ : ∃ n,ss.length = n := ⟨_,rfl⟩
     rw [hn] at hsrc hnl hcs2
     rw [hn]
     clear hn HROW HC HKZ
     have HSRC := hZ0 hsrc;clear hsrc
     have HNL := hZ0 hnl;clear hnl
     have HK3 := hZ0 hk3;clear hk3
     go_wp2_with fail
     go_loopw [9,38] (fun v9 v38 wy => ∃ (i : Nat) (A5 : Option Addr) (c5 : Nat),i <= n /\ v38 = .int .i64 i /\ v9 = .slice A5 i c5 /\ NewSl 143 3 w2.heap.size wy A5 i c5 (cells (out.take i)) /\ Kept NoF w2 wy) (fun _ v38 _ => n - (intOf v38).toNat)
     case atStart => exact ⟨0,none,0,Nat.zero_le _,rfl,rfl,⟨⟨rfl,.inl ⟨rfl,rfl⟩⟩,fun k hk => by cases hk⟩,Kept.refl _ _⟩
     case round =>
      obtain ⟨i,A5,c5,hi,rfl,rfl,hrow,hk⟩ := hrel
      have hsz5 := hk.size
      have HROW := hZ0 (And.intro hrow hsz5);clear hrow hsz5
      have HKY := hZ0 hk;clear hk
      by_cases hil : i < n
      ·obtain ⟨o,ho⟩ : ∃ o,out[i]? = some o := ⟨_,List.getElem?_eq_getElem (by have := HNL.out;omega)⟩
       obtain ⟨ad,hA,hlt,e0,e1,e2⟩ := op_cells (HSRC.out.kept HKY.out (fun _ _ x => x)) (by omega) i o ho
       subst hA
       have hcs := cells_at ho
       have HCS := hZ0 hcs;clear hcs ho
       obtain ⟨k0,v0,d0⟩ := o
       dsimp only at e0 e1 e2 HCS
       have hm1 : i + 1 <= maxLen := by unfold maxLen;omega
       have hm2 : (i + 1) * 40 <= 140737488355328 := by omega
       have HM1 := hZ0 hm1;clear hm1
       have HM2 := hZ0 hm2;clear hm2
       go_wp2_with (at_builtin;refine list_append_src elemOp (.tmp 42) (.tmp 44) rfl rfl (Value.slice A5 i c5) rfl ((HROW.out.1.kept (((Kept.refl _ _).alloc _).alloc _)).1) 1 rfl (Src.of_has (m := 1) (cs := #[.string k0,.string v0,.bool d0]) (Has.new_at _ 143 _ (by simp)) rfl) (by intro u hu;simp at hu;rcases hu with rfl | rfl | rfl <;> rfl) HM1.out HM2.out ?_;intro A6 c6 w6 ho6 hg6 ha6)
       have hn6 : NewSl 143 3 w2.heap.size w6 A6 (i + 1) c6 (cells (out.take (i + 1))) := by
        rw [HCS.out]
        exact HROW.out.1.snoc (by simp;have := HROW.out.2;omega) ho6 ha6
       have hk6 : Kept NoF w2 w6 := ((HKY.out.alloc _).alloc _).grown hg6 (fun k hk => .inr (HROW.out.1.2 k hk))
       clear ho6 hg6 ha6
       have HN6 := hZ0 (And.intro hn6 hk6);clear hn6 hk6
       go_wp2
       go_roundw
       case rel => exact ⟨i + 1,A6,c6,by omega,by go_num,rfl,HN6.out.1,HN6.out.2⟩
       case measure => simp [intOf];omega
      ·obtain rfl : i = n := by omega
       go_wp2
       go_ret
       have h1 := HROW.out.1
       rw [List.take_of_length_le (by rw [HNL.out];exact Nat.le_refl _)] at h1
       refine ⟨A5,c5,by rw [HOO.out,HNL.out];rfl,?_,HK3.out.then HKY.out⟩
       rw [HOO.out,HNL.out]
       exact ⟨h1.1,fun k hk => Nat.le_trans HK3.out.size (h1.2 k hk)⟩
    ·intro x cb kl yd yp w2 cnt2 hkey hlk hv hat hrg2 hlt hg2 hs2 hen
     obtain ⟨x',ex,rfl,_⟩ := Maps.keyOf_str Tryz.underlying9 hkey
     obtain rfl : x = x' := encStr_inj ex
     have hy : yd = encO cb := by
      have h : some (encO cb,[]) = some (yd,yp) := hv
      injection h with h
      injection h with h1 h2
      exact h1.symm
     subst hy
     have hhas : has D (.string x) = true := has_true_of_atKey hat
     rw [(HD.out x).1] at hhas
     obtain ⟨o,ho⟩ := Option.isSome_iff_exists.1 hhas
     have hoc : o = cb := encO_inj (((HD.out x).2 o ho).symm.trans (hat _))
     subst hoc
     have hro := rowOf_last ho
     have hrow2 := HROW.out.1.kept hg2 (Or.inr (row_ne_iter HROW.out.1 hrg).symm)
     have hk2 : Kept (fun k => k = w1.heap.size) wr w2 := (Kept.refl _ _).grownBy hg2 (fun k hk => by injection hk with hk;exact .inl hk.symm)
     have hkw : Kept NoF w w2 := HKZ.out.trans hk2 (fun j hj => .inr (by rw [hj];exact hsz))
     have hcn := HC.out.step hlk hat
     have hfl : (ss ++ [x]).flatMap (encF (lastF m)) = ss.flatMap (encF (lastF m)) ++ [.string o.key,.string o.val,.bool o.del] := by
      rw [List.flatMap_append]
      congr 1
      unfold encF
      rw [List.flatMap_cons,List.flatMap_nil,hro,List.append_nil]
      rfl
     have HFL := hZ0 hfl;clear hfl hro ho hhas
     have HC2 := hZ0 hcn;clear hcn
     have HROW2 := hZ0 (And.intro hrow2 hkw);clear hrow2 hkw hk2
     clear hs2 hkey hv hat hlk ex
     obtain ⟨k0,v0,d0⟩ := o
     dsimp only [oagg] at hen HFL ⊢
     have hMx1 : ss.length + 1 <= maxLen := by unfold maxLen;omega
     have hMx2 : (ss.length + 1) * 40 <= 140737488355328 := by omega
     have HMX1 := hZ0 hMx1;clear hMx1
     have HMX2 := hZ0 hMx2;clear hMx2
     go_wp2_with (at_builtin;refine list_append_src elemRow (.tmp 30) (.tmp 32) rfl rfl (Value.slice A' ss.length c') rfl (own_kept HROW2.out.1 (F := NoF) (((Kept.refl _ _).alloc _).alloc _) (fun _ _ x => x)) 1 rfl (Src.of_has (m := 1) (cs := #[.string k0,.string v0,.bool d0]) (Has.new_at _ 145 _ (by simp)) rfl) (by intro u hu;simp at hu;rcases hu with rfl | rfl | rfl <;> rfl) HMX1.out HMX2.out ?_;intro A3 c3 w3 ho3 hg3 ha3)
     have hrg3 := ((hrg2.alloc (.cells #[.string k0,.string v0,.bool d0] 143)).alloc (.cells #[.string k0,.string v0,.bool d0] 145)).kept hg3 (fun e => own_ne_map HROW2.out.1 hrg2.owns e.symm) (row_ne_iter HROW2.out.1 hrg2)
     have hlen3 : (ss ++ [x]).length = ss.length + 1 := by simp
     have hk3 : Kept NoF w w3 := ((HROW2.out.2.alloc _).alloc _).grown hg3 (fun k hk => .inr (HROW.out.2 k hk))
     have ho4 : NewSl 145 3 w.heap.size w3 A3 (ss ++ [x]).length c3 ((ss ++ [x]).flatMap (encF (lastF m))) := by
      rw [hlen3,HFL.out]
      exact NewSl.snoc (w := wr) HROW.out (by simp;have := HROW2.out.2.size;omega) ho3 ha3
     have HO4 := hZ0 (And.intro ho4 hk3);clear ho4 ho3 hg3 ha3 hk3
     go_wp2_with fail
     go_roundw
     case rel => exact ⟨_,cnt2,ss ++ [x],A3,c3,hrg3,by rw [hlen3];omega,by rw [hlen3],HO4.out.1,HC2.out,HO4.out.2⟩
     case measure => rw [hrg3.left_eq,hrg.left_eq];exact hlt
end Nrm
end Go.Proofs.YtgbigpdiacjbgaaGreat
namespace Go.Proofs.YtgbigpdiacjbgaaGreat
open Go.RowKit
set_option maxRecDepth 100000
namespace Ask
open Plan Ops Ent Msg Vn
def mayB (cl rq : Int) (bo : List OpR) (a : AskR) : Bool :=
 if a.k = 0 then decide (Ops.chk ⟨cl,rq,bo⟩ = 0)
 else if a.k = 1 \/ a.k = 3 then decide (0 <= a.nd /\ a.nd < 4) && decide (keyE a.key = 0)
 else if a.k = 2 then decide (0 <= a.nd /\ a.nd < 4) && (decide (a.key.size <= 8) && (decide (a.to.size <= 8) && (decide (1 <= a.n) && decide (a.n <= 32))))
 else if a.k = 5 \/ a.k = 6 then decide (0 <= a.n) && decide (a.n <= 1073741824)
 else decide (a.k = 4)
def boOf (a : AskR) : List OpR := if a.k = 0 then normL a.ops else []
def newE (cl rq : Int) (a : AskR) : Int := if cl < 0 \/ 3 <= cl then 1 else if rq < 1 \/ 1073741824 < rq then 5 else if mayB cl rq (boOf a) a = true then 0 else 1
def phOf (a : AskR) : Nat := if a.k = 0 \/ a.k = 3 then 0 else if a.k = 1 \/ a.k = 2 then 1 else 2
def newT (cl rq : Int) (a : AskR) : TS := ⟨cl,rq,a,boOf a,phOf a,a.at',a.key,[],0,false,rep0⟩
end Ask
end Go.Proofs.YtgbigpdiacjbgaaGreat

/- Part 23 of what the proof needs. -/
import Derived.Test.YtgffjliedjhbaaaGreatZS21
import Derived.ControlIn
import Derived.RegionIn
set_option linter.unusedSimpArgs false
set_option linter.unusedVariables false
set_option maxHeartbeats 32000000
set_option maxRecDepth 100000
namespace Go.Proofs.YtgffjliedjhbaaaGreat
open Go.RowKit Go.Shelf
attribute [local go_sem] Oper.semAt_some
set_option maxRecDepth 100000
namespace Wl
open Disk Fr Vn Ops
theorem segments_in (F : Fence) (n : Nat) (h5 : F.fn 237) (hro : F.round = none) (p : Option Addr) (first : Int) (w : World) :
  CallsIn F n Tryz.prog 237 #[.pointer p,.int .i64 first] w fun e w' => e = .returned (.func (.func 257) #[] #[.pointer (some ⟨w.heap.size,0,none⟩),.pointer (some ⟨w.heap.size + 1,0,none⟩)]) /\ w' = (w.alloc (.cells #[.pointer p] 40)).alloc (.cells #[.int .i64 first] 3) := by
 refine callsIn_of_wp Tryz.func237 rfl h5 ?_ hro
 simp only [Tryz.ntmps237,List.size_toArray,List.length_cons,List.length_nil,Nat.reduceAdd,Nat.reduceSub,Array.replicate_succ,Array.replicate_zero,List.push_toArray,List.append_toArray,List.nil_append,List.cons_append]
 gi_wp2
 go_ret
 exact ⟨by simp,rfl⟩
def readT (L : List Sg) : List (List UInt8) := L.flatMap fun x => okT (framesL (bl x.1.2))
theorem readT_snoc (L : List Sg) (x : Sg) : readT (L ++ [x]) = readT L ++ okT (framesL (bl x.1.2)) := by simp [readT]
def goesOn (s : ByteArray) : Bool := decide (endE (framesL (bl s)) = 0) && decide (s.size < 256)
def atN (a : Int) (L : List Sg) : Int := L.foldl (fun _ x => if goesOn x.1.2 then x.1.1 else x.1.1 + 1) a
theorem atN_snoc (a : Int) (L : List Sg) (x : Sg) : atN a (L ++ [x]) = if goesOn x.1.2 then x.1.1 else x.1.1 + 1 := by simp [atN]
def ReadPost (w : World) (first : Int) (L : List Sg) (e : Ending) (w' : World) : Prop :=
 ∃ A c,e = .returned (.tuple #[.slice A (readT L).length c,.int .i64 (atN first L)]) /\ NewSl 9 1 w.heap.size w' A (readT L).length c (tcells (readT L)) /\ Below w.heap.size w w'
def RI (w : World) (first : Int) (pre : List Sg) (W : World) : Prop :=
 (∃ A c,Has W w.heap.size 108 #[.slice A (readT pre).length c] /\ NewSl 9 1 (w.heap.size + 4) W A (readT pre).length c (tcells (readT pre)) /\ Has W (w.heap.size + 1) 3 #[.int .i64 (atN first pre)]) /\ Below w.heap.size w W /\ w.heap.size + 4 <= W.heap.size
theorem ri_own (w : World) (first : Int) (B : Nat) (hB : w.heap.size + 4 <= B) : OwnFrom B (RI w first) := fun pre W W' row h hg hr => by
 obtain ⟨⟨A,c,h5,hrow,h6⟩,hb,hw⟩ := h
 have hr2 : ∀ r,row = some r -> ∃ o : Obj,W.heap[r]? = some o /\ o.isCells = false := fun r e => (hr r e).2
 have hk : Kept (fun k => row = some k) W W' := (Kept.refl _ W).grownBy hg (fun k hk => .inl hk)
 exact ⟨⟨A,c,h5.kept hk (has_not h5 hr2),newsl_row hrow hk hr2,h6.kept hk (has_not h6 hr2)⟩,hb.trans (hk.below hb.size (fun k h => by have := (hr k h).1;omega)),Nat.le_trans hw hk.size⟩
def EE (w : World) (k : Nat) : Prop := k = w.heap.size \/ k = w.heap.size + 1
theorem okT_small (x : Sg) : (okT (framesL (bl x.1.2))).length <= 1000001 := by
 have h1 := okT_len (framesL (bl x.1.2))
 have h2 : (framesL (bl x.1.2)).length <= x.1.2.size + 1 := by unfold framesL;rw [size_bl];exact framesF_len _ _ _
 have := x.2.1
 omega
theorem readT_len (L : List Sg) : (readT L).length <= L.length * 1000001 := by
 induction L with
 | nil => exact Nat.le_refl _
 | cons x L ih =>
  have h1 := okT_small x
  show (okT (framesL (bl x.1.2)) ++ readT L).length <= _
  rw [List.length_append,List.length_cons,Nat.succ_mul]
  omega
theorem rround {w W w2 w' Wf : World} {first y : Int} {pre : List Sg} {x : Sg} {A A2 A' : Option Addr} {c c2 c' : Nat} {FF : Nat -> Prop} (hFF : ∀ k,FF k -> k < w.heap.size \/ k = w.heap.size + 2 \/ k = w.heap.size + 3)
  (hrow : NewSl 9 1 (w.heap.size + 4) W A (readT pre).length c (tcells (readT pre))) (hB : Below w.heap.size w W) (hW : w.heap.size + 4 <= W.heap.size) (hb2 : Below W.heap.size W w2)
  (hown : w'.ownsRow 0 9 1 (.slice A' ((readT pre).length + (okT (framesL (bl x.1.2))).length) c') ((readT pre).length + (okT (framesL (bl x.1.2))).length) (tcells (readT pre) ++ tcells (okT (framesL (bl x.1.2))))) (hgr : w2.grownBy w' (Value.slice A (readT pre).length c).ownBlock)
  (hbl : (Value.slice A' ((readT pre).length + (okT (framesL (bl x.1.2))).length) c').ownBlock = (Value.slice A (readT pre).length c).ownBlock \/ (Value.slice A' ((readT pre).length + (okT (framesL (bl x.1.2))).length) c').ownBlock = some w2.heap.size)
  (hf : Kept (EE w) w' Wf) (r5 : Has Wf w.heap.size 108 #[.slice A' ((readT pre).length + (okT (framesL (bl x.1.2))).length) c']) (r6 : Has Wf (w.heap.size + 1) 3 #[.int .i64 y]) (hy : y = atN first (pre ++ [x])) :
  KeepsFrom (w.heap.size + 4) W Wf /\ KS FF (EE w) W Wf /\ RI w first (pre ++ [x]) Wf := by
 have hk12 : Kept NoF W w2 := Kept.of_below hb2 (fun k hk _ => hk)
 have hkg : Kept (fun k => RowOf (.slice A (readT pre).length c) k) W w' := Kept.grown (hk12.mono (fun _ z => z.elim)) hgr (fun k hk => .inl hk)
 have hk : Kept (fun k => k = w.heap.size \/ k = w.heap.size + 1 \/ RowOf (.slice A (readT pre).length c) k) W Wf :=
  (hkg.mono (fun k h => .inr (.inr h))).then (hf.mono (fun k h => by rcases h with h | h;exact .inl h;exact .inr (.inl h)))
 have hlow : ∀ k,k < w.heap.size + 4 -> ¬ RowOf (.slice A (readT pre).length c) k := fun k hk h => by have := hrow.2 _ h;omega
 have hrt : ∀ k,RowOf (.slice A (readT pre).length c) k -> ∃ cs,Has W k 9 cs := fun k h => own_has hrow.1 h
 have hnew : ∀ k,RowOf (.slice A' ((readT pre).length + (okT (framesL (bl x.1.2))).length) c') k -> w.heap.size + 4 <= k := fun k h => by
  rcases hbl with e | e
  ·exact hrow.2 k (e.symm.trans h)
  ·have h9 := e.symm.trans h
   injection h9 with h9
   have := hb2.size
   omega
 refine ⟨keepsFrom_of_kept hk (fun k hF hB6 o ho => ?_),⟨hk.size,fun k hF => ?_,fun k cs hE hh => ?_⟩,⟨A',c',?_,⟨?_,?_⟩,?_⟩,?_,Nat.le_trans hW hk.size⟩
 ·rcases hF with h | h | h
  ·omega
  ·omega
  ·obtain ⟨cs,hh⟩ := hrt k h
   unfold Has at hh
   rw [hh] at ho
   cases ho
   rfl
 ·have hlt := hFF k hF
  refine hk.block k (by omega) (fun h => ?_)
  rcases h with h | h | h
  ·omega
  ·omega
  ·exact hlow k (by omega) h
 ·refine hh.kept hk (fun h => ?_)
  rcases h with h | h | h
  ·exact hE (.inl h)
  ·exact hE (.inr h)
  ·obtain ⟨cs',h2⟩ := hrt k h
   exact Has.ne hh h2 (by decide) rfl
 ·rw [readT_snoc,List.length_append];exact r5
 ·rw [readT_snoc,List.length_append]
  have e1 : tcells (readT pre ++ okT (framesL (bl x.1.2))) = tcells (readT pre) ++ tcells (okT (framesL (bl x.1.2))) := by simp [tcells]
  rw [e1]
  exact own_kept hown hf (fun g hg h => by
   have := hnew g hg
   rcases h with h | h <;> omega)
 ·intro k h
  rw [readT_snoc,List.length_append] at h
  exact hnew k h
 ·rw [<- hy];exact r6
 ·exact hB.trans (hk.below hB.size (fun k h => by
   rcases h with h | h | h
   ·omega
   ·omega
   ·have := hrow.2 k h;omega))
theorem tcells_one (l : List (List UInt8)) : ∀ u ∈ tcells l,u.oneCell' = true := by
 intro u hu
 unfold tcells at hu
 rw [List.mem_map] at hu
 obtain ⟨x,_,rfl⟩ := hu
 rfl
attribute [local go_sem ↓] append_named
theorem read_any (w : World) (g nn : Nat) (F : Nat -> Prop) (m : Disk.Safe) (ps : List Disk.Pc) (ser boot first : Int) (K : Nat) (ls : List Sg)
  (hd : DiskAt w g F nn m ps ser boot) (hpi : ∀ p ∈ ps,I64 p.1) (hnn : nn <= 100000) (hps : ps.length <= 100000) (hsz : ∀ f,(sget m f).size + total ps <= 140737488355328)
  (h1 : 1 <= first) (h1' : first <= 1073741824) (h2 : first + K <= 4611686018427387904) (hK : isFile m ps (first + K) = false) (hls : ls.map (·.1) = segsF (isFile m ps) (dataOf m ps) K first) (hlen : ls.length <= 1000000) :
  Calls Tryz.prog 175 #[.pointer (some ⟨g,0,none⟩),.int .i64 first] w (ReadPost w first ls) := by
 have hfn : ∀ k,Fence.wide.fn k := fun _ => trivial
 refine (callsIn_wide (n := 5)).1 ?_
 refine callsIn_of_wp_marks Tryz.func175 rfl trivial ?_ rfl
 have q1 : ¬ first < 1 := by omega
 have q2 : ¬ 1073741824 < first := by omega
 have HPI := hZ0 hpi;have HLS := hZ0 hls;have HSZ0 := hZ0 hsz;have HK := hZ0 hK;have HD := hZ0 hd
 clear hpi hls hsz hK hd
 simp only [Tryz.ntmps175,List.size_toArray,List.length_cons,List.length_nil,Nat.reduceAdd,Nat.reduceSub,Array.replicate_succ,Array.replicate_zero,List.push_toArray,List.append_toArray,List.nil_append,List.cons_append]
 refine wpIn_wide.2 ?_
 go_wp2
 go_step3
 go_wp2
 go_step3
 go_wp2_with (go_at_call 237;refine ((callsIn_wide (n := 5)).1 (segments_in Fence.wide 5 trivial rfl _ _ _)).mono ?_;rintro e w' ⟨rfl,rfl⟩)
 obtain ⟨W0,hW0⟩ : ∃ W0,(((w.alloc (.cells #[.slice none 0 0] 108)).alloc (.cells #[.int .i64 first] 3)).alloc (.cells #[.pointer (some ⟨g,0,none⟩)] 40)).alloc (.cells #[.int .i64 first] 3) = W0 := ⟨_,rfl⟩
 have hsz : W0.heap.size = w.heap.size + 4 := by rw [<- hW0];simp
 have hk0 : Kept NoF w W0 := by rw [<- hW0];exact by (repeat' (first | (with_reducible first | exact kR0 | apply kP0 | apply kN0 | apply kD0 | apply kA0) | (right;simp;done)))
 have hB0 : Below w.heap.size w W0 := Kept.below hk0 (Nat.le_refl _) (fun _ z => z.elim)
 have hbd : Has W0 (w.heap.size + 2) 40 #[.pointer (some ⟨g,0,none⟩)] := by rw [<- hW0];exact (Has.new_at _ 40 #[.pointer (some ⟨g,0,none⟩)] (by simp)).alloc _
 have hbf : Has W0 (w.heap.size + 3) 3 #[.int .i64 first] := by rw [<- hW0];exact Has.new_at _ 3 #[.int .i64 first] (by simp)
 have hd0 : DiskAt W0 g F nn m ps ser boot := HD.out.kept hk0 (fun _ _ z => z)
 have hI0 : RI w first [] W0 := by
  refine ⟨⟨none,0,?_,⟨⟨rfl,.inl ⟨rfl,rfl⟩⟩,(fun k hk => by cases hk)⟩,?_⟩,hB0,by rw [hsz];exact Nat.le_refl _⟩
  ·rw [<- hW0];exact (((Has.new_at _ 108 #[.slice none 0 0] rfl).alloc _).alloc _).alloc _
  ·rw [<- hW0];exact ((Has.new_at _ 3 #[.int .i64 first] (by simp)).alloc _).alloc _
 rw [show w.heap.size + 1 + 1 = w.heap.size + 2 from rfl,show w.heap.size + 2 + 1 = w.heap.size + 3 from rfl]
 rw [hW0]
 clear hW0
 have HSZ := hZ0 hsz;clear hsz
 have HFLT := hZ0 (HD.out.lt)
 refine (wpIn_wide (n := 5)).1 ?_
 refine wpIn_rangeFunc_ownH rfl (by omega) (gf := 257) (lb := #[.pointer (some ⟨w.heap.size + 2,0,none⟩),.pointer (some ⟨w.heap.size + 3,0,none⟩)]) rfl (hfn _) (enters_of Tryz.func257 (by kernel_rfl) rfl)
  (seg_stops (5 - 1) (by omega) (w.heap.size + 2) (w.heap.size + 3) g nn F (EE w) m ps ser boot first K ls W0 hd0 hbd hbf (fun k h => by have := HSZ.out;rcases h with h | h <;> omega) HPI.out hnn hps HSZ0.out h1 h2 HK.out HLS.out) KS.trans
  (KS.put (fun k h => by have := HSZ.out;rcases h with h | h | h;exact Nat.lt_of_lt_of_le (HFLT.out k h) (by omega);omega;omega)) (Below.refl _ _) (fun _ => rfl)
  (RI w first) (fun _ _ _ => False) (ri_own w first _ (by rw [HSZ.out];exact Nat.le_refl _)) (fun _ _ _ _ _ h _ _ => h) hI0
  (fun x a' W => a' = { tmps := #[.pointer (some ⟨g,0,none⟩),.int .i64 first,undef,undef,.slice none 0 0,.int .i64 0,.pointer (some ⟨w.heap.size,0,none⟩),.pointer (some ⟨w.heap.size + 1,0,none⟩),.int .i64 x.1.1,.string x.1.2,undef,undef,undef,.pointer (some ⟨g,0,none⟩),.bool false,.bool false,.int .i64 first,.bool (decide (first < 1)),.bool (decide (first < 1)),.bool (decide (first < 1)),.int .i64 first,.bool (decide (1073741824 < first)),.bool (decide (first < 1) || decide (1073741824 < first)),undef,.int .i64 first,.pointer (some ⟨g,0,none⟩),.int .i64 first,.func (.func 257) #[] #[.pointer (some ⟨w.heap.size + 2,0,none⟩),.pointer (some ⟨w.heap.size + 3,0,none⟩)],.int .i64 x.1.1,.string x.1.2,undef,undef,undef,undef,undef,undef,undef,undef,undef,undef,undef,undef,undef,undef,undef,undef,undef,undef,undef,undef,undef],defers := [] })
  (fun x a' _ X Y row hs hg hr => hs)
  ?assign ?body ?done ?stop
 case assign =>
  rintro l pre x W K hI hK
  gi_wp2
  exact hK _ _ (KeepsFrom.refl _ _) KS.refl hI rfl
 case body =>
  rintro l pre x a' W hl ⟨r,hr⟩ ⟨⟨A,c,hb5,hrow,hb6⟩,hB,hW4⟩ rfl hlt
  have hal := fall_any W x.1.2 x.2.1
  have hpl := readT_len pre
  have hxl := okT_small x
  have hx1 := x.2.2.1
  have hx2 := x.2.2.2
  have hend : ∀ (w2 : World) (A2 : Option Addr) (c2 : Nat),NewSl 9 1 W.heap.size w2 A2 (okT (framesL (bl x.1.2))).length c2 (tcells (okT (framesL (bl x.1.2)))) -> Below W.heap.size W w2 ->
    ∃ A' c' w',(appG #[108,108] 108 #[.slice A (readT pre).length c,.slice A2 (okT (framesL (bl x.1.2))).length c2]).run Tryz.prog w2 = .ok (.slice A' ((readT pre).length + (okT (framesL (bl x.1.2))).length) c') w' /\
     Has w2 w.heap.size 108 #[.slice A (readT pre).length c] /\ Has w' w.heap.size 108 #[.slice A (readT pre).length c] /\ Has w' (w.heap.size + 1) 3 #[.int .i64 (atN first pre)] /\
     ∀ Wf y,Kept (EE w) w' Wf -> Has Wf w.heap.size 108 #[.slice A' ((readT pre).length + (okT (framesL (bl x.1.2))).length) c'] -> Has Wf (w.heap.size + 1) 3 #[.int .i64 y] -> y = atN first (pre ++ [x]) ->
      ownPostG W0.heap.size (KS (fun k => F k \/ k = w.heap.size + 2 \/ k = w.heap.size + 3) (EE w)) (RI w first) (fun _ _ _ => False) (pre ++ [x]) W Exit.normal { tmps := #[],defers := [] } Wf := by
   intro w2 A2 c2 hn2 hb2
   have hk12 : Kept NoF W w2 := Kept.of_below hb2 (fun k hk _ => hk)
   obtain ⟨v',w',hrun,hown,hgr,hbl⟩ := run_append_src (P := Tryz.prog) (ty := 108) (w := w2) elemStr (v := .slice A (readT pre).length c) (n := (readT pre).length) (xs := tcells (readT pre)) (own_kept hrow.1 hk12 (fun _ _ z => z)) (A := A2) (m := (okT (framesL (bl x.1.2))).length) (c := c2) (news := tcells (okT (framesL (bl x.1.2)))) (Src.of_own hn2.1) (tcells_one _) (by unfold maxLen;omega) (by omega)
   obtain ⟨A',c',rfl,_⟩ := own_form hown
   have hkg : Kept (fun k => RowOf (.slice A (readT pre).length c) k) w2 w' := Kept.grown (Kept.refl _ w2) hgr (fun k hk => .inl hk)
   have hlow : ∀ k,k < w.heap.size + 4 -> ¬ RowOf (.slice A (readT pre).length c) k := fun k hk h => by have := hrow.2 _ h;omega
   refine ⟨A',c',w',hrun,hb5.kept hk12 (fun z => z),(hb5.kept hk12 (fun z => z)).kept hkg (hlow _ (by omega)),(hb6.kept hk12 (fun z => z)).kept hkg (hlow _ (by omega)),fun Wf y h1 h2 h3 h4 => ?_⟩
   have h5 := rround (A2 := A2) (c2 := c2) (FF := fun k => F k \/ k = w.heap.size + 2 \/ k = w.heap.size + 3) (fun k h => by rcases h with h | h | h;exact .inl (HFLT.out k h);exact .inr (.inl h);exact .inr (.inr h)) hrow hB hW4 hb2 hown hgr hbl h1 h2 h3 h4
   show KeepsFrom W0.heap.size _ _ /\ _
   rw [HSZ.out]
   exact h5
  have HAL := hZ0 hal;have HEND := hZ0 hend;have HSN := hZ0 (atN_snoc first pre x)
  clear hal hend hpl hxl hb5 hrow hb6 hB
  obtain ⟨⟨x1,x2⟩,hxp⟩ := x
  dsimp only at *
  gi_wp2_with (gi_at_call 174;(refine (callsIn_wide.2 HAL.out).mono ?_;rintro e w2 ⟨A2,c2,rfl,hn2,hb2⟩;obtain ⟨A',c',w',hrun,ho5,h5,h6,hfin⟩ := HEND.out w2 A2 c2 hn2 hb2;have d0 := ho5.cell 0;have HFIN := hZ0 hfin;have f0 := h5.frozen 0;have f1 := h6.frozen 0;have e0 := h5.cell 0;have e1 := h6.cell 0;have H5 := hZ0 h5;have H6 := hZ0 h6;clear hn2 hb2 hfin ho5 h5 h6))
  ·refine HFIN.out _ _ ((((Kept.refl _ w').put (.inl (.inl rfl))).put (.inl (.inr rfl)))) ((H5.out.put_of rfl).past (by omega)) ((H6.out.past (by omega)).put_of rfl) ?_
   rw [HSN.out,if_pos]
   have h8 : endE (framesL (bl x2)) = 0 := by assumption
   have h9 : (x2.size : Int) < 256 := by assumption
   simp [goesOn,h8];omega
  ·refine HFIN.out _ _ (((((Kept.refl _ w').put (.inl (.inl rfl))).put (.inl (.inr rfl))).put (.inl (.inr rfl)))) (((H5.out.put_of rfl).past (by omega)).past (by omega)) (((H6.out.past (by omega)).put_of rfl).put_of rfl) ?_
   rw [HSN.out,if_neg]
   have h9 : 256 <= (x2.size : Int) := by assumption
   simp [goesOn];omega
  ·refine HFIN.out _ _ (((((Kept.refl _ w').put (.inl (.inl rfl))).put (.inl (.inr rfl))).put (.inl (.inr rfl)))) (((H5.out.put_of rfl).past (by omega)).past (by omega)) (((H6.out.past (by omega)).put_of rfl).put_of rfl) ?_
   rw [HSN.out,if_neg]
   have h8 : ¬ endE (framesL (bl x2)) = 0 := by assumption
   simp [goesOn,h8]
 case done =>
  rintro D xs W hD rfl ⟨⟨A,c,hb5,hrow,hb6⟩,hB,hW4⟩ hK
  have hDW : w.heap.size + 4 <= D := by have := HSZ.out;omega
  have e0 : W.cell? ⟨w.heap.size,0,none⟩ = some (.slice A (readT xs).length c) := hb5.cell 0
  have e1 : W.cell? ⟨w.heap.size + 1,0,none⟩ = some (.int .i64 (atN first xs)) := hb6.cell 0
  have hfin : ∀ (tmps : Array Value) (k : Nat),tmps.getD 4 undef = .slice A (readT xs).length c -> tmps.getD 5 undef = .int .i64 (atN first xs) ->
    bodyPostM Fence.wide 5 Tryz.prog Tryz.f175 (ReadPost w first xs) Exit.ret { tmps := tmps,defers := [{ target := .collected D,args := #[] }] } W.drew := by
   intro tmps k p0 p1
   have hKd : W.drew.heap[D]? = some (.deferred (some [])) := hK
   refine ⟨by simp,.inl ⟨_,_,rfl,run_takeDeferred hKd,?_⟩⟩
   have q0 : tmps[4]?.getD undef = .slice A (readT xs).length c := by simpa using p0
   have q1 : tmps[5]?.getD undef = .int .i64 (atN first xs) := by simpa using p1
   refine ⟨_,?_,A,c,rfl,⟨ownsRow_putObj (W := W.drew) hrow.1 _ hKd rfl,fun g hg => Nat.le_trans (by omega) (hrow.2 g hg)⟩,hB.drew.trans (belowK_b (w := w) (Nat.le_refl _) W.drew D _ _ (by omega) hKd rfl rfl)⟩
   have e : Tryz.f175.results = #[.tmp 4,.tmp 5] := rfl
   simp only [results,e]
   simp [Sem.run_bind,Result.andThen,q0,q1,go_sem]
  have HFIN := hZ0 hfin
  clear hfin hrow hB hb5 hb6
  go_wp2
  go_region
  all_goals
   go_wp2
   refine HFIN.out _ 0 ?_ ?_ <;> rfl
 case stop =>
  rintro D cc pre W hD hSp h hK
  exact h.elim
end Wl
end Go.Proofs.YtgffjliedjhbaaaGreat

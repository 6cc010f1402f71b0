/- Part 22 of what the proof needs. -/
import Derived.Test.YtgffjliedjhbaaaGreatZS00
import Derived.Test.YtgffjliedjhbaaaGreatZS03
import Derived.Test.YtgffjliedjhbaaaGreatZS17
import Derived.Test.YtgffjliedjhbaaaGreatZS19
import Derived.Test.YtgffjliedjhbaaaGreatZS20
import Derived.WalkKit
import Derived.WalkSpells
import Derived.WalkLawsBesides
import Derived.Lib.Hide
import Derived.BigQuiet
import Derived.Deep.QuietTactic
set_option linter.unusedSimpArgs false
set_option linter.unusedVariables false
set_option maxHeartbeats 32000000
set_option maxRecDepth 100000
namespace Go.Proofs.YtgffjliedjhbaaaGreat
open Go.RowKit
set_option maxRecDepth 100000
namespace SlI
theorem ints_cells {w : World} {A : Option Addr} {k : Nat} {l : List Int} (h : Src w 1 A k (l.map (Value.int .i64))) (hm : 0 < k) (i : Nat) (p : Int) (hp : l[i]? = some p) :
  ∃ ad : Addr,A = some ad /\ ad.block < w.heap.size /\ w.cell? (ad.add i) = some (.int .i64 p) := by
 obtain ⟨ad,e,hb,hc⟩ := h.2 hm
 exact ⟨ad,e,hb,hc i _ (by rw [List.getElem?_map,hp];rfl)⟩
theorem drop_cons {α : Type} {l : List α} {i : Nat} {p : α} (h : l[i]? = some p) : l.drop i = p :: l.drop (i + 1) := by
 obtain ⟨hi,e⟩ := List.getElem?_eq_some_iff.1 h
 rw [List.drop_eq_getElem_cons hi,e]
def inB (l : List Int) (x : Int) : Bool := l.contains x
theorem inB_iff {l : List Int} {x : Int} : inB l x = true ↔ x ∈ l := by unfold inB;simp
theorem indexI_any (w : World) (A : Option Addr) (c : Nat) (l : List Int) (x : Int) (hl : Src w 1 A l.length (l.map (Value.int .i64))) (hlen : l.length <= maxLen) :
  Calls Tryz.prog 176 #[.slice A l.length c,.int .i64 x] w fun e w' => (∃ n : Int,e = .returned (.int .i64 n) /\ (0 <= n ↔ x ∈ l)) /\ w = w' := by
 unfold maxLen at hlen
 have HL := hZ0 hl;clear hl
 go_enter Tryz.func176,Tryz.ntmps176
 go_wp2_with fail
 go_loop [5,8] (fun v5 v8 => ∃ i : Nat,i <= l.length /\ v8 = .int .i64 i /\ (x ∈ l ↔ x ∈ l.drop i)) (fun _ v8 => l.length - (intOf v8).toNat)
 case atStart => exact ⟨0,Nat.zero_le _,rfl,Iff.rfl⟩
 case round =>
  obtain ⟨i,hi,rfl,he⟩ := hrel
  have HE := hZ0 he;clear he
  by_cases hil : i < l.length
  ·obtain ⟨b,hb⟩ : ∃ b,l[i]? = some b := ⟨_,List.getElem?_eq_getElem hil⟩
   obtain ⟨ad,rfl,had,e0⟩ := ints_cells HL.out (by omega) i b hb
   have hs : x ∈ l.drop i ↔ x = b \/ x ∈ l.drop (i + 1) := by rw [drop_cons hb,List.mem_cons]
   have HS := hZ0 hs;clear hs hb
   by_cases hbx : x = b
   ·subst hbx
    go_wp2
    go_ret
    exact ⟨⟨_,rfl,⟨fun _ => by rw [HE.out,HS.out];simp,fun _ => by omega⟩⟩,rfl⟩
   ·have hne : (x == b) = false := by simpa using hbx
    go_wp2
    go_round
    case rel => exact ⟨i + 1,by omega,by go_num,by rw [HE.out,HS.out];simp [hbx]⟩
    case measure => simp [intOf];omega
  ·obtain rfl : i = l.length := by omega
   go_wp2
   go_ret
   exact ⟨⟨-1,rfl,⟨fun h => by omega,fun h => by rw [HE.out,List.drop_length] at h;cases h⟩⟩,rfl⟩
theorem containsI_any (w : World) (A : Option Addr) (c : Nat) (l : List Int) (x : Int) (hl : Src w 1 A l.length (l.map (Value.int .i64))) (hlen : l.length <= maxLen) :
  Calls Tryz.prog 110 #[.slice A l.length c,.int .i64 x] w fun e w' => e = .returned (.bool (inB l x)) /\ w = w' := by
 have hi := indexI_any w A c l x hl hlen
 have HI := hZ0 hi;clear hi hl
 by_cases hx : x ∈ l
 ·have hb : inB l x = true := inB_iff.2 hx
  rw [hb]
  have HX := hZ0 hx;clear hx
  go_enter Tryz.func110,Tryz.ntmps110
  go_wp2_with fail
  refine HI.out.mono ?_
  rintro e w2 ⟨⟨n,rfl,hn⟩,rfl⟩
  have hn0 : 0 <= n := hn.2 HX.out
  clear hn
  go_wp2
  go_ret
  exact ⟨rfl,rfl⟩
 ·have hb : inB l x = false := by unfold inB;simpa using hx
  rw [hb]
  have HX := hZ0 hx;clear hx
  go_enter Tryz.func110,Tryz.ntmps110
  go_wp2_with fail
  refine HI.out.mono ?_
  rintro e w2 ⟨⟨n,rfl,hn⟩,rfl⟩
  have hn0 : ¬ 0 <= n := fun h => HX.out (hn.1 h)
  clear hn
  go_wp2
  go_ret
  exact ⟨by have h2 : decide (0 <= n) = false := decide_eq_false (by omega)
            simp [h2],rfl⟩
theorem str_cells {w : World} {A : Option Addr} {k : Nat} {l : List ByteArray} (h : Src w 1 A k (l.map Value.string)) (hm : 0 < k) (i : Nat) (p : ByteArray) (hp : l[i]? = some p) :
  ∃ ad : Addr,A = some ad /\ ad.block < w.heap.size /\ w.cell? (ad.add i) = some (.string p) := by
 obtain ⟨ad,e,hb,hc⟩ := h.2 hm
 exact ⟨ad,e,hb,hc i _ (by rw [List.getElem?_map,hp];rfl)⟩
end SlI
namespace Disk
def mA : Safe := syncM (fun _ => none) [(1,⟨#[97,98]⟩)]
theorem i64_small {k : Int} (h0 : 0 <= k) (h1 : k <= 4611686018427387904) : I64 k := by
 unfold I64 Lit.wf
 have hb : (2 : Int) ^ (IntKind.i64.bits - 1) = 9223372036854775808 := by decide
 simp [IntKind.signed,IntKind.min,IntKind.max,hb]
 omega
end Disk
end Go.Proofs.YtgffjliedjhbaaaGreat
namespace Go.Proofs.YtgffjliedjhbaaaGreat
open Go.RowKit Go.Shelf
attribute [local go_sem] Oper.semAt_some
set_option maxRecDepth 100000
namespace Wl
open Disk
def segsF (p : Int -> Bool) (d : Int -> ByteArray) : Nat -> Int -> List (Int × ByteArray)
 | 0,_ => []
 | k + 1,n => if p n then (n,d n) :: segsF p d k (n + 1) else []
structure KS (FF E : Nat -> Prop) (A B : World) : Prop where
 size : A.heap.size <= B.heap.size
 block : ∀ k,FF k -> B.heap[k]? = A.heap[k]?
 ints : ∀ k cs,¬ E k -> Has A k 3 cs -> Has B k 3 cs
section
variable {FF E F : Nat -> Prop} {A B C w w' : World} {g n : Nat} {m : Disk.Safe} {ps : List Disk.Pc} {ser boot : Int}
theorem KS.refl : KS FF E A A := ⟨Nat.le_refl _,fun _ _ => rfl,fun _ _ _ h => h⟩
theorem KS.trans (h : KS FF E A B) (k : KS FF E B C) : KS FF E A C := ⟨Nat.le_trans h.size k.size,fun i hi => (k.block i hi).trans (h.block i hi),fun i cs hi hc => k.ints i cs hi (h.ints i cs hi hc)⟩
theorem KS.of_kept (h : Kept NoF A B) (hF : ∀ k,FF k -> k < A.heap.size) : KS FF E A B := ⟨h.size,fun k hk => h.block k (hF k hk) (fun z => z),fun k cs _ hc => hc.kept h (fun z => z)⟩
theorem KS.put (hF : ∀ k,FF k -> k < w.heap.size) (W : World) (l : Nat) (o o' : Obj) (h : w.heap.size <= l) (hl : W.heap[l]? = some o) (hc : o.isCells = false) (_ : o.isWalk = false) : KS FF E W (W.putObj l o') :=
 ⟨Nat.le_of_eq (by simp [World.putObj]),fun k hk => World.putObj_heap_other (by have := hF k hk;omega),fun k cs _ hh => by
  have hne : k ≠ l := by
   rintro rfl
   unfold Has at hh
   rw [hl] at hh
   cases hh
   cases hc
  unfold Has at hh ⊢
  rw [World.putObj_heap_other hne]
  exact hh⟩
theorem own_same {base size n : Nat} {e : TypeId} {v : Value} {xs : List Value} (h : w.ownsRow base e size v n xs) (hb : ∀ g,v.ownBlock = some g -> w'.heap[g]? = w.heap[g]?) : w'.ownsRow base e size v n xs := by
 refine ⟨h.1,?_⟩
 rcases h.2 with h2 | ⟨g,cap,cur,rfl,hg,hh,r⟩
 ·exact .inl h2
 ·exact .inr ⟨g,cap,cur,rfl,hg,(hb g rfl).trans hh,r⟩
theorem DiskAt.same (h : DiskAt w g F n m ps ser boot) (hb : ∀ k,F k -> w'.heap[k]? = w.heap[k]?) : DiskAt w' g F n m ps ser boot := by
 obtain ⟨mb,A,c,hF,hg,hm,ho⟩ := h
 refine ⟨mb,A,c,hF,(hb _ ((hF _).2 (.inl rfl))).trans hg,?_,own_same ho fun k hk => hb k ((hF k).2 (.inr (.inr hk)))⟩
 obtain ⟨D,⟨es,clock,hbk,hFF,hs,e⟩,hD⟩ := hm
 exact ⟨D,⟨es,clock,(hb mb ((hF _).2 (.inr (.inl rfl)))).trans hbk,hFF,hs,e⟩,hD⟩
theorem own_type {base size n : Nat} {e : TypeId} {v : Value} {xs : List Value} (h : w.ownsRow base e size v n xs) {g : Nat} (hg : v.ownBlock = some g) : ∃ cs,Has w g e cs := Fr.own_has h hg
end
theorem segsF_no {p : Int -> Bool} {d : Int -> ByteArray} {x : Int} (h : p x = false) : ∀ j,segsF p d j x = []
 | 0 => rfl
 | j + 1 => by unfold segsF;rw [h];rfl
theorem seg_in (n : Nat) (hn : 1 <= n) (l Bd Bf g nn : Nat) (F E : Nat -> Prop) (m : Disk.Safe) (ps : List Disk.Pc) (ser boot first : Int) (K : Nat) (J Jx : List (Int × ByteArray) -> World -> Prop) (W : World)
  (hd : DiskAt W g F nn m ps ser boot) (hBd : Has W Bd 40 #[.pointer (some ⟨g,0,none⟩)]) (hBf : Has W Bf 3 #[.int .i64 first])
  (hE : ∀ k,E k -> k < W.heap.size) (hpi : ∀ p ∈ ps,I64 p.1) (hnn : nn <= 100000) (hps : ps.length <= 100000) (hsz : ∀ f,(sget m f).size + total ps <= 140737488355328)
  (h1 : 1 <= first) (h2 : first + K <= 4611686018427387904) (hK : isFile m ps (first + K) = false)
  (hA : ∀ pre A B,J pre A -> Kept NoF A B -> J pre B)
  (hY : ∀ pre x W,J pre W -> pre ++ [x] <+: segsF (isFile m ps) (dataOf m ps) K first -> YieldAt Fence.wide (n - 1) Tryz.prog l #[.int .i64 x.1,.string x.2] W fun e W' =>
   (e = .returned (.bool true) /\ J (pre ++ [x]) W' /\ KS (fun k => F k \/ k = Bd \/ k = Bf) E W W') \/ (e = .returned (.bool false) /\ Jx (pre ++ [x]) W'))
  (h0 : J [] W) :
  CallsIn Fence.wide n Tryz.prog 257 #[.func (.yield l) #[] #[],.pointer (some ⟨Bd,0,none⟩),.pointer (some ⟨Bf,0,none⟩)] W fun e W' => (∃ v,e = .returned v) /\
   ((∃ ys,ys = segsF (isFile m ps) (dataOf m ps) K first /\ J ys W') \/ (∃ pre,pre <+: segsF (isFile m ps) (dataOf m ps) K first /\ Jx pre W')) := by
 have hfn : ∀ k,Fence.wide.fn k := fun _ => trivial
 obtain ⟨FF,hFF⟩ : ∃ FF : Nat -> Prop,FF = fun k => F k \/ k = Bd \/ k = Bf := ⟨_,rfl⟩
 have hFlt : ∀ k,FF k -> k < W.heap.size := by
  intro k hk
  rw [hFF] at hk
  rcases hk with h | rfl | rfl
  ·exact hd.lt k h
  ·exact hBd.lt
  ·exact hBf.lt
 have hFF1 : ∀ k,F k -> FF k := fun k h => by rw [hFF];exact .inl h
 have hFF2 : FF Bd := by rw [hFF];exact .inr (.inl rfl)
 have hFF3 : FF Bf := by rw [hFF];exact .inr (.inr rfl)
 rw [<- hFF] at hY
 have hfi := files_any hd hpi hnn hps
 have c1 : W.cell? ⟨Bd,0,none⟩ = some (.pointer (some ⟨g,0,none⟩)) := hBd.cell 0
 have HA := hZ0 hA;have HY := hZ0 hY;have HFI := hZ0 hfi;have HH0 := hZ0 h0;have HFL := hZ0 hFlt;have HK := hZ0 hK;have HE := hZ0 hE;have HSZ := hZ0 hsz
 have HF1 := hZ0 hFF1;have HF2 := hZ0 hFF2;have HF3 := hZ0 hFF3;have HD := hZ0 hd;have HBD := hZ0 hBd;have HBF := hZ0 hBf;have HNN := hZ0 hnn;have HPS := hZ0 hps
 clear hA hY hfi h0 hFlt hK hE hsz hFF1 hFF2 hFF3 hd hBd hBf hpi hFF
 refine callsIn_of_wp Tryz.func257 rfl trivial ?_ rfl
 simp only [Tryz.ntmps257,List.size_toArray,List.length_cons,List.length_nil,Nat.reduceAdd,Nat.reduceSub,Array.replicate_succ,Array.replicate_zero,List.push_toArray,List.append_toArray,List.nil_append,List.cons_append]
 gi_wp2_with (gi_at_call 61;(refine (callsIn_wide.2 HFI.out).mono ?_;rintro e W1 ⟨fl,A,c,rfl,hfa,hown,hnew,hk⟩;have c2 : W1.cell? ⟨Bf,0,none⟩ = some (.int .i64 first) := (HBF.out.kept hk (fun z => z)).cell 0;have HFA := hZ0 hfa;have HOWN := hZ0 hown;have HNEW := hZ0 hnew;have HK1 := hZ0 hk;clear hfa hown hnew hk))
 have hks1 : KS FF E W W1 := KS.of_kept HK1.out HFL.out
 have hj1 : J [] W1 := HA.out _ _ _ HH0.out HK1.out
 have HKS1 := hZ0 hks1;have HJ1 := hZ0 hj1
 clear hks1 hj1
 gi_loopw [5] (fun v5 wr => ∃ (x : Int) (j : Nat) (pre : List (Int × ByteArray)),v5 = .int .i64 x /\ first <= x /\ x + j = first + K /\ segsF (isFile m ps) (dataOf m ps) K first = pre ++ segsF (isFile m ps) (dataOf m ps) j x /\ J pre wr /\ KS FF E W1 wr) (fun v5 _ => (first + K - intOf v5).toNat)
 case atStart => exact ⟨first,K,[],rfl,Int.le_refl _,rfl,rfl,HJ1.out,KS.refl⟩
 case round =>
  obtain ⟨x,j,pre,rfl,hx1,hx2,hL,hJ,hks⟩ := hrel
  have HL := hZ0 hL;have HJ := hZ0 hJ;have HKS := hZ0 hks
  clear hL hJ hks
  have hcap := own_cap HOWN.out
  have hsrc : Src wr 1 A fl.length (fl.map (Value.int .i64)) := by
   refine Src.of_own (own_same HOWN.out fun b hb => ?_)
   obtain ⟨cs,hh⟩ := own_type HOWN.out hb
   have hbE : ¬ E b := fun h => by have h8 := HNEW.out b hb;have h9 := HE.out b h;omega
   exact (HKS.out.ints b cs hbE hh).trans hh.symm
  have hx64 : I64 x := i64_small (by omega) (by omega)
  have hco := SlI.containsI_any wr A c fl x hsrc (by omega)
  have hin : SlI.inB fl x = isFile m ps x := by
   rw [Bool.eq_iff_iff,SlI.inB_iff,HFA.out.mem x]
   exact ⟨fun h => h.2,fun h => ⟨hx64,h⟩⟩
  rw [hin] at hco
  have HCO := hZ0 hco
  clear hco hin hsrc hcap
  rcases hp : isFile m ps x with _ | _
  ·rw [hp] at HCO
   have hno := segsF_no (d := dataOf m ps) hp j
   have HNO := hZ0 hno
   clear hno hp
   gi_wp2_with (gi_at_call 110;(refine (callsIn_wide.2 HCO.out).mono ?_;rintro e W2 ⟨rfl,rfl⟩))
   go_end0
   exact ⟨⟨_,rfl⟩,.inl ⟨_,by rw [HL.out,HNO.out,List.append_nil],HJ.out⟩⟩
  ·rw [hp] at HCO
   obtain ⟨j,rfl⟩ : ∃ j',j = j' + 1 := by
    rcases j with _ | j
    ·have e : x = first + K := by omega
     rw [e,HK.out] at hp
     cases hp
    ·exact ⟨j,rfl⟩
   have hcons : segsF (isFile m ps) (dataOf m ps) (j + 1) x = (x,dataOf m ps x) :: segsF (isFile m ps) (dataOf m ps) j (x + 1) := by
    rw [segsF,hp];rfl
   have hL := HL.out
   rw [hcons] at hL
   have hL2 : segsF (isFile m ps) (dataOf m ps) K first = (pre ++ [(x,dataOf m ps x)]) ++ segsF (isFile m ps) (dataOf m ps) j (x + 1) := by rw [hL];simp
   have hlen : pre ++ [(x,dataOf m ps x)] <+: segsF (isFile m ps) (dataOf m ps) K first := by rw [hL2];exact List.prefix_append _ _
   have HL2 := hZ0 hL2;have HLEN := hZ0 hlen
   have hks0 : KS FF E W wr := HKS1.out.trans HKS.out
   have hdw : DiskAt wr g F nn m ps ser boot := DiskAt.same HD.out fun k hk => hks0.block k (HF1.out k hk)
   have hda := data_any hdw x hx64 HPS.out (HSZ.out x)
   have b1 : wr.cell? ⟨Bd,0,none⟩ = some (.pointer (some ⟨g,0,none⟩)) := (show Has wr Bd _ _ from (hks0.block Bd HF2.out).trans HBD.out).cell 0
   have HDA := hZ0 hda
   clear hL hlen hL2 hcons hp hks0 hdw hda
   gi_wp2_with (first
    | (gi_at_call 110;(refine (callsIn_wide.2 HCO.out).mono ?_;rintro e W2 ⟨rfl,rfl⟩))
    | (gi_at_call 161;(refine (callsIn_wide.2 HDA.out).mono ?_;rintro e w2 ⟨rfl,hk⟩;have HJ2 := hZ0 (HA.out _ _ _ HJ.out hk);have hfl2 : ∀ k,FF k -> k < wr.heap.size := (fun k h => Nat.lt_of_lt_of_le (HFL.out k h) (HKS1.out.trans HKS.out).size);have HB2 := hZ0 (HKS.out.trans (KS.of_kept hk hfl2));clear hk hfl2;obtain ⟨fn,tmps,assign,body,hy,hR⟩ := HY.out pre (x,dataOf m ps x) w2 HJ2.out HLEN.out;simp only at hy)))
   refine hR.mono ?_
   rintro e W3 (⟨rfl,hJ3,hk3⟩ | ⟨rfl,hJx3⟩)
   ·have HJ3 := hZ0 hJ3;have HB3 := hZ0 (HB2.out.trans hk3);clear hJ3 hk3
    gi_wp2
    go_roundw
    case rel => exact ⟨x + 1,j,pre ++ [(x,dataOf m ps x)],rfl,by omega,by omega,HL2.out,HJ3.out,HB3.out⟩
    case measure => simp [intOf];omega
   ·have HJx3 := hZ0 hJx3;clear hJx3
    gi_wp2
    refine bodyPost_ret (results_none rfl _ _ _) rfl ?_
    exact ⟨⟨_,rfl⟩,.inr ⟨_,by rw [HL2.out];exact List.prefix_append _ _,HJx3.out⟩⟩
abbrev Sg := { x : Int × ByteArray // x.2.size <= 1000000 /\ 1 <= x.1 /\ x.1 <= 4611686018427387904 }
theorem prefix_take {α β : Type} (f : α -> β) {ls : List α} {pre : List α} {x : β} (h : pre.map f ++ [x] <+: ls.map f) (hp : pre <+: ls) : ∃ y,f y = x /\ pre ++ [y] <+: ls := by
 obtain ⟨r,rfl⟩ := hp
 rw [List.map_append] at h
 have h2 := (List.prefix_append_right_inj (pre.map f)).1 h
 rcases r with _ | ⟨y,r⟩
 ·have := h2.length_le;simp at this
 ·refine ⟨y,?_,?_⟩
  ·rw [List.map_cons] at h2
   obtain ⟨z,hz⟩ := h2
   simp at hz
   exact hz.1.symm
  ·rw [show pre ++ y :: r = (pre ++ [y]) ++ r by simp];exact List.prefix_append _ _
theorem seg_stops (n : Nat) (hn : 1 <= n) (Bd Bf g nn : Nat) (F E : Nat -> Prop) (m : Disk.Safe) (ps : List Disk.Pc) (ser boot first : Int) (K : Nat) (ls : List Sg) (w : World)
  (hd : DiskAt w g F nn m ps ser boot) (hBd : Has w Bd 40 #[.pointer (some ⟨g,0,none⟩)]) (hBf : Has w Bf 3 #[.int .i64 first])
  (hE : ∀ k,E k -> k < w.heap.size) (hpi : ∀ p ∈ ps,I64 p.1) (hnn : nn <= 100000) (hps : ps.length <= 100000) (hsz : ∀ f,(sget m f).size + total ps <= 140737488355328)
  (h1 : 1 <= first) (h2 : first + K <= 4611686018427387904) (hK : isFile m ps (first + K) = false) (hls : ls.map (·.1) = segsF (isFile m ps) (dataOf m ps) K first) :
  SeqStopsK Fence.wide n Tryz.prog 257 #[.pointer (some ⟨Bd,0,none⟩),.pointer (some ⟨Bf,0,none⟩)] (fun x : Sg => #[.int .i64 x.1.1,.string x.1.2]) (KS (fun k => F k \/ k = Bd \/ k = Bf) E) (fun ys => ys = ls) (fun pre => pre <+: ls) ls.length w := by
 intro l J Jx W hW hJ hJx hY h0
 have hkw : ∀ k,k < w.heap.size -> W.heap[k]? = w.heap[k]? := fun k hk => hW.block k hk
 refine (seg_in n hn l Bd Bf g nn F E m ps ser boot first K (fun pre W => ∃ q,q.map (·.1) = pre /\ q <+: ls /\ J q W) (fun pre W => ∃ q,q.map (·.1) = pre /\ q <+: ls /\ Jx q W) W
  (DiskAt.same hd fun k hk => hkw k (hd.lt k hk)) ((hkw _ hBd.lt).trans hBd) ((hkw _ hBf.lt).trans hBf) (fun k hk => Nat.lt_of_lt_of_le (hE k hk) hW.size) hpi hnn hps hsz h1 h2 hK ?_ ?_ ⟨[],rfl,List.nil_prefix,h0⟩).mono ?_
 ·rintro pre A B ⟨q,h3,h4,h5⟩ hk
  exact ⟨q,h3,h4,hJ q A B none h5 (Fr.grown_kept hk) (fun r e => by cases e)⟩
 ·rintro pre x W1 ⟨q,rfl,h4,h5⟩ hpre
  rw [<- hls] at hpre
  obtain ⟨y,rfl,hy⟩ := prefix_take _ hpre h4
  refine (hY q y W1 h5 ?_).mono ?_
  ·have := hy.length_le;simp at this;omega
  ·rintro e W2 (⟨rfl,h6,h7⟩ | ⟨rfl,h6⟩)
   ·exact .inl ⟨rfl,⟨q ++ [y],by simp,hy,h6⟩,h7⟩
   ·exact .inr ⟨rfl,q ++ [y],by simp,hy,h6⟩
 ·rintro e W2 ⟨he,⟨ys,rfl,q,h3,h4,h5⟩ | ⟨pre,hpre,q,rfl,h4,h5⟩⟩
  ·refine ⟨he,.inl ⟨q,?_,h5⟩⟩
   refine h4.eq_of_length ?_
   have := congrArg List.length (h3.trans hls.symm)
   simpa using this
  ·exact ⟨he,.inr ⟨q,h4,h5⟩⟩
end Wl
end Go.Proofs.YtgffjliedjhbaaaGreat

/- Part 6 of what the proof needs. -/
import Derived.Test.YtgffjliedjhbaaaGreatZS00
import Derived.Test.YtgffjliedjhbaaaGreatZS01
import Derived.Test.YtgffjliedjhbaaaGreatZS03
import Derived.Test.YtgffjliedjhbaaaGreatZS04
import Derived.Test.YtgffjliedjhbaaaGreatChecked
import Derived.Shelf.SlSortCmp.WholeK
import Derived.Shelf.SlSortCmp.NoneTotal
import Derived.Ground.SlsfProg
import Derived.Maps.RangeWalk
set_option linter.unusedSimpArgs false
set_option linter.unusedVariables false
set_option maxHeartbeats 32000000
set_option maxRecDepth 100000
namespace Go.Proofs.YtgffjliedjhbaaaGreat
open Go.RowKit
set_option maxRecDepth 100000
namespace Ent
open Ops Vn
def holdsL (w log : List EntR) : Int := if log.length < w.length then 7 else if agreeB w log = true then 0 else 18
theorem holds_any (w : World) (A B : Option Addr) (c d : Nat) (l m : List EntR) (hl : Src w 4 A l.length (ecells l)) (hm : Src w 4 B m.length (ecells m)) (hlen : l.length <= 1000000) (hmlen : m.length <= 1000000000000) (hc : l.length <= c) (hd : m.length <= d) :
  Calls Tryz.prog 25 #[.slice A l.length c,.slice B m.length d] w fun e w' => e = .returned (.int .i64 (holdsL l m)) /\ Kept NoF w w' := by
 unfold holdsL
 have hag := agree_any w A B c d l m hl hm hlen hmlen hc hd
 by_cases h1 : m.length < l.length
 ·rw [if_pos h1]
  clear hag hl hm
  go_enter Tryz.func25,Tryz.ntmps25
  go_wp2
  go_ret
  exact ⟨rfl,Kept.refl _ _⟩
 rw [if_neg h1]
 obtain ⟨r,hr⟩ : ∃ r,agreeB l m = r := ⟨_,rfl⟩
 rw [hr] at hag ⊢
 have HAG := hZ0 hag;clear hag hr hl hm
 cases r
 ·rw [if_neg (by simp)]
  go_enter Tryz.func25,Tryz.ntmps25
  go_wp2_with fail
  refine HAG.out.mono ?_
  rintro e w2 ⟨rfl,hk⟩
  have HK := hZ0 hk;clear hk
  go_wp2
  go_ret
  exact ⟨rfl,HK.out⟩
 ·rw [if_pos rfl]
  go_enter Tryz.func25,Tryz.ntmps25
  go_wp2_with fail
  refine HAG.out.mono ?_
  rintro e w2 ⟨rfl,hk⟩
  have HK := hZ0 hk;clear hk
  go_wp2
  go_ret
  exact ⟨rfl,HK.out⟩
def addN (log : List EntR) (st : Int) : Nat := min (max st 0).toNat (stampL log)
theorem addN_le (log : List EntR) (st : Int) : addN log st <= log.length := by
 have := stampL_le log
 unfold addN
 omega
def grown (w log : List EntR) (i : Nat) : List EntR := w ++ ((log.take i).drop w.length).map bareE
theorem grown_small {w log : List EntR} {i : Nat} (h : i <= w.length) : grown w log i = w := by
 unfold grown
 rw [List.drop_of_length_le (by rw [List.length_take];omega)]
 simp
theorem grown_succ {w log : List EntR} {i : Nat} {e : EntR} (he : log[i]? = some e) (h : w.length <= i) : grown w log (i + 1) = grown w log i ++ [bareE e] := by
 unfold grown
 have hi := (List.getElem?_eq_some_iff.1 he).1
 rw [List.take_add_one,he,List.drop_append_of_le_length (by rw [List.length_take];omega)]
 simp
theorem grown_len (w log : List EntR) (i : Nat) : (grown w log i).length <= w.length + i := by
 unfold grown
 simp
 omega
def addL (w log : List EntR) (st : Int) : List EntR × Int := if agreeB w (log.take (addN log st)) = true then (grown w log (addN log st),0) else ([],18)
def AddPost (w : World) (r : List EntR × Int) (e : Ending) (w' : World) : Prop :=
 ∃ A c,e = .returned (.tuple #[.slice A r.1.length c,.int .i64 r.2]) /\ NewSl 72 4 w.heap.size w' A r.1.length c (ecells r.1) /\ Kept NoF w w'
theorem add_any (w : World) (A B : Option Addr) (c d : Nat) (l m : List EntR) (st : Int) (hl : Src w 4 A l.length (ecells l)) (hm : Src w 4 B m.length (ecells m)) (hlen : l.length <= 1000000) (hmlen : m.length <= 1000000) (hc : l.length <= c) (hd : m.length <= d) :
  Calls Tryz.prog 19 #[.slice A l.length c,.slice B m.length d,.int .i64 st] w (AddPost w (addL l m st)) := by
 have hst := stamped_any w B d m hm (by omega)
 obtain ⟨k,hk⟩ : ∃ k,(max st 0).toNat = k := ⟨_,rfl⟩
 obtain ⟨s,hs⟩ : ∃ s,stampL m = s := ⟨_,rfl⟩
 obtain ⟨n,hn⟩ : ∃ n,addN m st = n := ⟨_,rfl⟩
 have hnl := addN_le m st
 have hnk : n = min k s := by rw [<- hn,<- hk,<- hs];rfl
 rw [hs] at hst
 rw [hn] at hnl
 have hmx : ∀ W ts t,(Builtin.max_ ts t #[.int .i64 st,.int .i64 0]).run Tryz.prog W = .ok (.int .i64 k) W := by
  intro W ts t
  rw [run_max_int2,<- hk]
  split <;> (congr 2;omega)
 have hmn : ∀ W ts t,(Builtin.min_ ts t #[.int .i64 (k : Int),.int .i64 (s : Int)]).run Tryz.prog W = .ok (.int .i64 n) W := by
  intro W ts t
  rw [run_min_int2,hnk]
  split <;> (congr 2;omega)
 have hdn : (n : Int) <= d := by omega
 have h0 : (0 : Int) <= n := by omega
 have hm2 := Src.takeE hm hnl
 have htl : (m.take n).length = n := by rw [List.length_take];omega
 have hag := fun W (hW : Kept NoF w W) => agree_any W A B c d l (m.take n) (hl.kept hW (fun _ _ x => x)) (hm2.kept hW (fun _ _ x => x)) hlen (by omega) hc (by omega)
 have hcl := fun W (hW : Kept NoF w W) => clone_any W A c l (hl.kept hW (fun _ _ x => x)) hlen
 rw [htl] at hag
 have hadd : addL l m st = if agreeB l (m.take n) = true then (grown l m n,0) else ([],18) := by unfold addL;rw [hn]
 rw [hadd]
 obtain ⟨r,hr⟩ : ∃ r,agreeB l (m.take n) = r := ⟨_,rfl⟩
 rw [hr] at hag ⊢
 clear hadd hr hk hs hn hnk hm2 htl
 have HST := hZ0 hst;clear hst
 have HAG := hZ0 hag;clear hag
 have HCL := hZ0 hcl;clear hcl
 have HM := hZ0 hm;clear hm hl
 cases r
 ·rw [if_neg (by simp)]
  clear HCL HM
  go_enter Tryz.func19,Tryz.ntmps19
  go_wp2_with fail
  refine HST.out.mono ?_
  rintro e w2 ⟨rfl,hk⟩
  have HK := hZ0 hk;clear hk
  go_wp2_with fail
  refine (HAG.out _ HK.out).mono ?_
  rintro e w3 ⟨rfl,hk⟩
  have HK2 := hZ0 (HK.out.then hk);clear hk HK
  go_wp2
  go_ret2
  exact ⟨none,0,rfl,⟨⟨rfl,.inl ⟨rfl,rfl⟩⟩,fun k hk => by cases hk⟩,HK2.out⟩
 ·rw [if_pos rfl]
  go_enter Tryz.func19,Tryz.ntmps19
  go_wp2_with fail
  refine HST.out.mono ?_
  rintro e w2 ⟨rfl,hk⟩
  have HK := hZ0 hk;clear hk
  go_wp2_with fail
  refine (HAG.out _ HK.out).mono ?_
  rintro e w3 ⟨rfl,hk⟩
  have HK2 := hZ0 (HK.out.then hk);clear hk HK
  go_wp2_with fail
  refine (HCL.out _ HK2.out).mono ?_
  rintro e w4 ⟨A1,c1,rfl,hrow,hk⟩
  have hrow2 : NewSl 72 4 w.heap.size w4 A1 (grown l m 0).length c1 (ecells (grown l m 0)) := by
   rw [grown_small (Nat.zero_le _)]
   exact ⟨hrow.1,fun k hk => Nat.le_trans HK2.out.size (hrow.2 k hk)⟩
  have hg0 : (grown l m 0).length = l.length := by rw [grown_small (Nat.zero_le _)]
  have HROW0 := hZ0 hrow2;clear hrow2 hrow
  have HG0 := hZ0 hg0;clear hg0
  have HK4 := hZ0 (HK2.out.then hk);clear hk HK2
  go_wp2_with fail
  go_loopw [8,25] (fun v8 v25 wr => ∃ (i : Nat) (A' : Option Addr) (c' : Nat),i <= n /\ v25 = .int .i64 i /\ v8 = .slice A' (grown l m i).length c' /\ NewSl 72 4 w.heap.size wr A' (grown l m i).length c' (ecells (grown l m i)) /\ Kept NoF w wr) (fun _ v25 _ => n - (intOf v25).toNat)
  case atStart => exact ⟨0,A1,c1,Nat.zero_le _,rfl,by rw [HG0.out],HROW0.out,HK4.out⟩
  case round =>
   obtain ⟨i,A5,c5,hi,rfl,rfl,hrow,hk⟩ := hrel
   have HROW := hZ0 hrow;clear hrow
   have HK := hZ0 hk;clear hk HK4 HROW0
   by_cases hil : i < n
   ·by_cases hge : l.length <= i
    ·obtain ⟨e,he⟩ : ∃ e,m[i]? = some e := ⟨_,List.getElem?_eq_getElem (by omega)⟩
     obtain ⟨ad,rfl,hlt,e0,e1,e2,e3⟩ := ent_cells (HM.out.kept HK.out (fun _ _ x => x)) (by omega) i e he
     have hsu := grown_succ (w := l) he hge
     have hgl := grown_len l m i
     have HSU := hZ0 hsu;clear hsu he
     obtain ⟨cur,hcur⟩ : ∃ cur,grown l m i = cur := ⟨_,rfl⟩
     rw [hcur] at HROW HSU hgl
     rw [hcur]
     clear hcur
     have hb := fun W => bare_any W e
     have HB := hZ0 hb;clear hb
     obtain ⟨cl,req,eA,ec,el,ts⟩ := e
     dsimp only [eagg,bareE] at e0 e1 e2 e3 HB HSU
     have hm1 : cur.length + 1 <= maxLen := by unfold maxLen;omega
     have hm2 : (cur.length + 1) * 48 <= 140737488355328 := by omega
     have HM1 := hZ0 hm1;clear hm1
     have HM2 := hZ0 hm2;clear hm2
     go_wp2_with fail
     refine (HB.out _).mono ?_
     rintro e w5 ⟨rfl,hk⟩
     have hro5 := HROW.out.kept hk
     have hk5 := HK.out.then hk
     have hsz5 := hk5.size
     have HRO5 := hZ0 (And.intro hro5 (And.intro hk5 hsz5));clear hro5 hk5 hsz5 hk
     go_wp2_with (at_builtin;refine list_append_src elemEnt (.tmp 32) (.tmp 38) rfl rfl (Value.slice A5 cur.length c5) rfl ((HRO5.out.1.kept ((Kept.refl _ _).alloc _)).1) 1 rfl (Src.of_has (m := 1) (cs := #[.int .i64 cl,.int .i64 req,.slice none 0 0,.int .u64 ts]) (Has.new_at _ 72 _ (by simp)) rfl) (by intro u hu;simp at hu;rcases hu with rfl | rfl | rfl | rfl <;> rfl) HM1.out HM2.out ?_;intro A6 c6 w6 ho6 hg6 ha6)
     have hn6 : NewSl 72 4 w.heap.size w6 A6 (grown l m (i + 1)).length c6 (ecells (grown l m (i + 1))) := by
      rw [HSU.out,ecells_snoc,List.length_append]
      exact HRO5.out.1.snoc (by simp;have := HRO5.out.2.2;omega) ho6 ha6
     have hk6 : Kept NoF w w6 := (HRO5.out.2.1.alloc _).grown hg6 (fun k hk => .inr (HRO5.out.1.2 k hk))
     have hgl6 : (grown l m (i + 1)).length = cur.length + 1 := by rw [HSU.out,List.length_append];rfl
     clear ho6 hg6 ha6
     have HN6 := hZ0 (And.intro hn6 (And.intro hk6 hgl6));clear hn6 hk6 hgl6
     go_wp2
     go_roundw
     case rel => exact ⟨i + 1,A6,c6,by omega,by go_num,by rw [HN6.out.2.2],HN6.out.1,HN6.out.2.1⟩
     case measure => simp [intOf];omega
    ·have hg1 : grown l m (i + 1) = grown l m i := by rw [grown_small (by omega),grown_small (by omega)]
     have HG1 := hZ0 hg1;clear hg1
     have hge2 : ¬ (l.length : Int) <= i := by omega
     obtain ⟨cur,hcur⟩ : ∃ cur,grown l m i = cur := ⟨_,rfl⟩
     rw [hcur] at HROW HG1
     rw [hcur]
     clear hcur
     go_wp2
     go_roundw
     case rel => exact ⟨i + 1,A5,c5,by omega,by go_num,by rw [HG1.out],by rw [HG1.out];exact HROW.out,HK.out⟩
     case measure => simp [intOf];omega
   ·obtain rfl : i = n := by omega
    obtain ⟨cur,hcur⟩ : ∃ cur,grown l m i = cur := ⟨_,rfl⟩
    rw [hcur] at HROW
    rw [hcur]
    have HCUR := hZ0 hcur;clear hcur
    go_wp2
    go_ret2
    exact ⟨A5,c5,by rw [HCUR.out];rfl,by rw [HCUR.out];exact HROW.out,HK.out⟩
end Ent
end Go.Proofs.YtgffjliedjhbaaaGreat
namespace Go.Proofs.YtgffjliedjhbaaaGreat
open Go.Shelf Go.Sort Go.RowKit Go.Maps Go.Proofs
set_option maxRecDepth 100000
namespace Nrm
def sortFA_ren : Go.Shelf.Ren := ⟨fun | 6 => 100 | 15 => 160 | 14 => 168 | 28 => 219 | 29 => 220 | 20 => 224 | 21 => 225 | 22 => 226 | 23 => 227 | 24 => 228 | 25 => 229 | 26 => 230 | 27 => 231 | 46 => 252 | 47 => 246 | 48 => 247 | 49 => 253 | 50 => 254 | 57 => 262 | n => n,fun | 22 => 197 | 24 => 198 | 25 => 200 | 3 => 3 | 39 => 284 | 0 => 0 | 53 => 345 | 55 => 30 | 4 => 4 | 46 => 338 | 45 => 337 | 50 => 206 | 5 => 5 | 9 => 9 | 66 => 372 | 70 => 375 | 76 => 383 | 77 => 251 | n => n,fun | n => n⟩
theorem sortFA : Go.Proofs.SlLaysF0.n6 Tryz.prog sortFA_ren := {
 mixed := by kernel_rfl
 f6 := ⟨Tryz.f100.name,by decide,Tryz.func100.trans (congrArg some (by kernel_rfl))⟩
 f14 := ⟨Tryz.f168.name,by decide,Tryz.func168.trans (congrArg some (by kernel_rfl))⟩
 f15 := Tryz.func160.trans (congrArg some (by kernel_rfl))
 f20 := ⟨Tryz.f224.name,by decide,Tryz.func224.trans (congrArg some (by kernel_rfl))⟩
 f21 := ⟨Tryz.f225.name,by decide,Tryz.func225.trans (congrArg some (by kernel_rfl))⟩
 f22 := ⟨Tryz.f226.name,by decide,Tryz.func226.trans (congrArg some (by kernel_rfl))⟩
 f23 := ⟨Tryz.f227.name,by decide,Tryz.func227.trans (congrArg some (by kernel_rfl))⟩
 f24 := ⟨Tryz.f228.name,by decide,Tryz.func228.trans (congrArg some (by kernel_rfl))⟩
 f25 := ⟨Tryz.f229.name,by decide,Tryz.func229.trans (congrArg some (by kernel_rfl))⟩
 f26 := ⟨Tryz.f230.name,by decide,Tryz.func230.trans (congrArg some (by kernel_rfl))⟩
 f27 := ⟨Tryz.f231.name,by decide,Tryz.func231.trans (congrArg some (by kernel_rfl))⟩
 f28 := Tryz.func219.trans (congrArg some (by kernel_rfl))
 f29 := Tryz.func220.trans (congrArg some (by kernel_rfl))
 f46 := ⟨Tryz.f252.name,by decide,Tryz.func252.trans (congrArg some (by kernel_rfl))⟩
 f47 := Tryz.func246.trans (congrArg some (by kernel_rfl))
 f48 := Tryz.func247.trans (congrArg some (by kernel_rfl))
 f49 := ⟨Tryz.f253.name,by decide,Tryz.func253.trans (congrArg some (by kernel_rfl))⟩
 f50 := ⟨Tryz.f254.name,by decide,Tryz.func254.trans (congrArg some (by kernel_rfl))⟩
 f57 := ⟨Tryz.f262.name,by decide,Tryz.func262.trans (congrArg some (by kernel_rfl))⟩
 t0 := Tryz.underlying0
 a0 := Tryz.isAgg0
 z0 := Tryz.sizeOf0
 v0 := Tryz.zeroValue0
 t3 := Tryz.underlying3
 a3 := Tryz.isAgg3
 z3 := Tryz.sizeOf3
 v3 := Tryz.zeroValue3
 t4 := Tryz.underlying4
 a4 := Tryz.isAgg4
 z4 := Tryz.sizeOf4
 v4 := Tryz.zeroValue4
 t5 := Tryz.underlying5
 a5 := Tryz.isAgg5
 z5 := Tryz.sizeOf5
 v5 := Tryz.zeroValue5
 t9 := Tryz.underlying9
 a9 := Tryz.isAgg9
 z9 := Tryz.sizeOf9
 v9 := Tryz.zeroValue9
 t22 := Tryz.underlying197
 a22 := Tryz.isAgg197
 z22 := Tryz.sizeOf197
 v22 := Tryz.zeroValue197
 t25 := Tryz.underlying200
 a25 := Tryz.isAgg200
 z25 := Tryz.sizeOf200
 v25 := Tryz.zeroValue200
 t39 := Tryz.underlying284
 a39 := Tryz.isAgg284
 z39 := Tryz.sizeOf284
 v39 := Tryz.zeroValue284
 t45 := Tryz.underlying337
 a45 := Tryz.isAgg337
 z45 := Tryz.sizeOf337
 v45 := Tryz.zeroValue337
 t46 := Tryz.underlying338
 a46 := Tryz.isAgg338
 z46 := Tryz.sizeOf338
 v46 := Tryz.zeroValue338
 t50 := Tryz.underlying206
 a50 := Tryz.isAgg206
 z50 := Tryz.sizeOf206
 v50 := Tryz.zeroValue206
 t53 := Tryz.underlying345
 a53 := Tryz.isAgg345
 z53 := Tryz.sizeOf345
 v53 := Tryz.zeroValue345
 t55 := Tryz.underlying30
 a55 := Tryz.isAgg30
 z55 := Tryz.sizeOf30
 v55 := Tryz.zeroValue30
 t66 := Tryz.underlying372
 a66 := Tryz.isAgg372
 z66 := Tryz.sizeOf372
 v66 := Tryz.zeroValue372
 t70 := Tryz.underlying375
 a70 := Tryz.isAgg375
 z70 := Tryz.sizeOf375
 v70 := Tryz.zeroValue375
 t76 := Tryz.underlying383
 a76 := Tryz.isAgg383
 z76 := Tryz.sizeOf383
 v76 := Tryz.zeroValue383
 t77 := Tryz.underlying251
 a77 := Tryz.isAgg251
 z77 := Tryz.sizeOf251
 v77 := Tryz.zeroValue251 }
theorem sortF_none (p : Option Addr) (cap : Nat) (fv : Value) (w : World) : Calls Tryz.prog 100 #[.slice p 0 cap,fv] w fun e w' => e = .returned (.tuple #[]) /\ w' = w :=
 AnyF.slices_SortFunc_none sortFA p cap fv w
def noR : Value -> Option (DataW Unit × List MemPlace) := fun _ => none
theorem norm_nil (w : World) (A : Option Addr) (c : Nat) : Calls Tryz.prog 60 #[.slice A 0 c] w fun e w' => e = .returned (.slice none 0 0) /\ Kept NoF w w' := by
 have hmk := @run_makeMap Tryz.prog
 have hown0 : (w.alloc (.map #[] 0)).ownsMap Tryz.prog 9 noR w.heap.size 0 (.map []) := World.ownsMap_made w _ _ _
 have HK0 := hZ0 ((Kept.refl NoF w).alloc (.map #[] 0))
 go_enter Tryz.func60,Tryz.ntmps60
 go_wp2_with fail
 clear hmk
 obtain ⟨W0,hW0⟩ : ∃ W0,w.alloc (.map #[] 0) = W0 := ⟨_,rfl⟩
 rw [hW0] at hown0 HK0
 rw [hW0]
 clear hW0
 go_loopw [15] (fun v15 wr => v15 = .int .i64 0 /\ wr = W0) (fun _ _ => 0)
 case atStart => exact ⟨rfl,rfl⟩
 case round =>
  obtain ⟨rfl,rfl⟩ := hrel
  go_wp2_with (first
   | (at_range;refine wpList_range_own _ rfl _ 194 rfl 9 196 Ops.strKeyed Tryz.underlying194 _ w.heap.size _ _ rfl hown0 ?_;intro w0 hrg0 hg0 hs0)
   | go_in)
  go_frame
  have hk0 : Kept NoF w w0 := HK0.out.grownBy hg0 (fun k hk => by cases hk)
  have HK1 := hZ0 hk0;clear hk0
  obtain ⟨r,hr⟩ : ∃ r,wr.heap.size = r := ⟨_,rfl⟩
  rw [hr] at hrg0 hs0
  rw [hr]
  clear hr hg0 hs0
  go_loopw [6] (fun v6 wz => v6 = .slice none 0 0 /\ (∃ cnt,wz.ranges Tryz.prog 9 noR w.heap.size r 0 (.map []) (has (.map [] : DataW Unit)) cnt) /\ Kept NoF w wz) (fun _ _ => 0)
  case atStart => exact ⟨rfl,⟨_,hrg0⟩,HK1.out⟩
  case round =>
   obtain ⟨rfl,⟨cnt,hrg⟩,hk⟩ := hrel
   have HK := hZ0 hk;clear hk
   go_wp2_with (first
    | (at_next;refine wpList_next_ranges _ rfl _ rfl 9 Ops.strKeyed noR encStr (fun v : Value => v) (fun key kl hk => by obtain ⟨x,hx,_⟩ := Maps.keyOf_str Tryz.underlying9 hk;exact ⟨x,hx⟩) (fun v y hv => ⟨v,rfl⟩) w.heap.size r 0 _ _ _ rfl hrg ?_ ?_)
    | go_in)
   ·intro hc0 hl0
    clear hrg hl0
    go_wp2_with fail
    refine (sortF_none _ _ _ _).mono ?_
    rintro e w2 ⟨rfl,rfl⟩
    obtain ⟨w3,hw3⟩ : ∃ w3 : World,w3 = w2 := ⟨_,rfl⟩
    subst hw3
    go_wp2_with fail
    go_loopw [9,38] (fun v9 v38 wy => v9 = .slice none 0 0 /\ v38 = .int .i64 0 /\ wy = w3) (fun _ _ _ => 0)
    case atStart => exact ⟨rfl,rfl,rfl⟩
    case round =>
     obtain ⟨rfl,rfl,rfl⟩ := hrel
     go_wp2
     go_ret
     exact ⟨rfl,HK.out⟩
   ·intro x cb kl yd yp w2 cnt2 hkey hlk
    exfalso
    simp [has] at hlk
end Nrm
end Go.Proofs.YtgffjliedjhbaaaGreat

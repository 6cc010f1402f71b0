/- Part 27 of what the proof needs. -/
import Derived.Test.YtgffjliedjhbaaaGreatZS25
set_option linter.unusedSimpArgs false
set_option linter.unusedVariables false
set_option maxHeartbeats 32000000
set_option maxRecDepth 100000
namespace Go.Proofs.YtgffjliedjhbaaaGreat
open Go.RowKit
set_option maxRecDepth 100000
namespace Pt
open Disk Fr Vn Ops Wl
structure LowN (first : Int) (m : Disk.Safe) (ps : List Disk.Pc) : Prop where
 file : ∀ x,x < first -> m x = none
 pc : ∀ p ∈ ps,first <= p.1
section
variable {first : Int} {R : St} {T : List (List UInt8)} {m : Disk.Safe} {ps : List Disk.Pc}
theorem LowN.low (h : LowN first m ps) : Low first m ps := ⟨fun x hx => by unfold sget;rw [h.file x hx];rfl,h.pc⟩
theorem sync_low {x : Int} : ∀ (ps : List Disk.Pc) (m : Disk.Safe),(∀ p ∈ ps,p.1 ≠ x) -> syncM m ps x = m x
 | [],_,_ => rfl
 | p :: ps,m,h => by
  have h1 := h p (by simp)
  rw [syncM,sync_low ps _ (fun q hq => h q (by simp [hq]))]
  unfold sput
  rw [if_neg (fun e => h1 e.symm)]
theorem LowN.sync (h : LowN first m ps) : LowN first (syncM m ps) [] :=
 ⟨fun x hx => by rw [sync_low ps m (fun p hp e => by have := h.pc p hp;omega)];exact h.file x hx,fun p hp => by cases hp⟩
theorem LowN.append (h : LowN first m ps) {f : Int} {s : ByteArray} (hf : first <= f) : LowN first m (ps ++ [(f,s)]) :=
 ⟨h.file,fun p hp => by
  rcases List.mem_append.1 hp with hp | hp
  ·exact h.pc p hp
  ·simp at hp;subst hp;exact hf⟩
theorem LowN.isFile (h : LowN first m ps) (hl : Log first R T m ps) (x : Int) : isFile m ps x = decide (first <= x /\ x < first + (cur R T).length) := by
 by_cases hx : first <= x
 ·have h1 := (hl.file (x - first).toNat).1
  rw [show first + ((x - first).toNat : Int) = x by omega] at h1
  rw [h1]
  congr 1
  rw [eq_iff_iff]
  omega
 ·have h1 : ¬ (first <= x /\ x < first + (cur R T).length) := fun h => hx h.1
  rw [decide_eq_false h1]
  unfold Disk.isFile
  rw [h.file x (by omega)]
  simp only [Option.isSome_none,Bool.false_or,List.any_eq_false,decide_eq_true_eq]
  intro p hp e
  have := h.pc p hp
  omega
theorem Log.above (h : Log first R T m ps) : Log (first + (cur R T).length) [] [] m ps := by
 have hno : ∀ i : Nat,Disk.isFile m ps (first + (cur R T).length + i) = false := fun i => by
  have := (h.file ((cur R T).length + i)).1
  rw [show first + (((cur R T).length + i : Nat) : Int) = first + (cur R T).length + i by omega] at this
  rw [this]
  simp
 refine ⟨fun i => ?_,?_,(fun f hf => by cases hf),(fun t ht => by cases ht)⟩
 ·have := hno i
  unfold Disk.isFile at this
  simp only [Bool.or_eq_false_iff,Option.isSome_eq_false_iff,Option.isNone_iff_eq_none] at this
  rw [this.1]
  rfl
 ·show _ = []
  rw [List.filter_eq_nil_iff]
  intro p hp hm
  simp only [mine,decide_eq_true_eq] at hm
  have := hno (p.1 - (first + (cur R T).length)).toNat
  rw [show first + ((cur R T).length : Int) + ((p.1 - (first + (cur R T).length)).toNat : Int) = p.1 by omega] at this
  unfold Disk.isFile at this
  simp only [Bool.or_eq_false_iff,List.any_eq_false,decide_eq_true_eq] at this
  exact this.2 p hp rfl
end
def keepM (a b : Int) (m : Disk.Safe) : Disk.Safe := fun x => if a <= x /\ x < b then m x else none
def dropM (a b : Int) (fl : List Int) (m : Disk.Safe) : Disk.Safe := fun x => if x ∈ fl /\ ¬ (a <= x /\ x < b) then none else m x
theorem rises_take {fl : List Int} (h : fl.Pairwise (· < ·)) {i : Nat} {x : Int} (hx : fl[i]? = some x) : x ∉ fl.take i := by
 intro hm
 obtain ⟨j,hj,e⟩ := List.getElem_of_mem hm
 rw [List.length_take] at hj
 rw [List.getElem_take] at e
 obtain ⟨hi,e2⟩ := List.getElem?_eq_some_iff.1 hx
 have := List.pairwise_iff_getElem.1 h j i (by omega) hi (by omega)
 omega
theorem MapIs.congr {w : World} {b n : Nat} {m m' : Disk.Safe} (h : MapIs w b n m) (he : ∀ k,I64 k -> m' k = m k) : MapIs w b n m' := by
 obtain ⟨D,ho,hD⟩ := h
 refine ⟨D,ho,fun k hk => ?_⟩
 have := hD k hk
 unfold sget at this ⊢
 rw [he k hk]
 exact this
theorem DiskAt.congr {F : Nat -> Prop} {w : World} {g n : Nat} {m m' : Disk.Safe} {ps : List Disk.Pc} {ser boot : Int} (h : DiskAt w g F n m ps ser boot) (he : ∀ k,I64 k -> m' k = m k) : DiskAt w g F n m' ps ser boot := by
 obtain ⟨mb,A,c,hF,hg,hm,ho⟩ := h
 exact ⟨mb,A,c,hF,hg,MapIs.congr hm he,ho⟩
section
variable {F : Nat -> Prop} {w : World} {g gp n : Nat} {m : Disk.Safe} {ser boot first : Int}
theorem keep_any (v0 v3 : Value) (hp : PAt w gp v0 g first v3) (hd : DiskAt w g F n m [] ser boot) (hn : n <= 100000) (a b : Int) :
  Calls Tryz.prog 107 #[.pointer (some ⟨gp,0,none⟩),.int .i64 a,.int .i64 b] w fun e w' => e = .returned (.tuple #[]) /\ DiskAt w' g F n (keepM a b m) [] ser boot /\ Kept F w w' := by
 have hfi := files_any hd (fun p hp => by cases hp) hn (by decide)
 have hgF : ¬ F gp := DiskAt.not hd hp (by decide) (by decide)
 have c1 : w.cell? ⟨gp,1,none⟩ = some (.pointer (some ⟨g,0,none⟩)) := hp.cell 1
 have hlt := hd.lt
 have HFI := hZ0 hfi;have HD := hZ0 hd;have HP := hZ0 hp;have HGF := hZ0 hgF;have HLT := hZ0 hlt
 clear hfi hd hp hgF hlt
 go_enter Tryz.func107,Tryz.ntmps107
 go_wp2_with fail
 refine HFI.out.mono ?_
 rintro e w1 ⟨fl,A,c,rfl,hfa,hown,hnew,hk1⟩
 have HFA := hZ0 hfa;have HOWN := hZ0 hown;have HNEW := hZ0 hnew;have HK1 := hZ0 hk1
 have hd1 := HD.out.kept hk1 (fun _ _ z => z)
 have hcap := own_cap hown
 unfold maxLen at hcap
 have HD1 := hZ0 hd1
 clear hfa hown hnew hk1 c1 hd1
 go_wp2_with fail
 go_loopw [14] (fun v14 wr => ∃ i : Nat,i <= fl.length /\ v14 = .int .i64 i /\ DiskAt wr g F n (dropM a b (fl.take i) m) [] ser boot /\ Kept F w1 wr) (fun v14 _ => fl.length - (intOf v14).toNat)
 case atStart => exact ⟨0,Nat.zero_le _,rfl,DiskAt.congr HD1.out (fun k hk => by unfold dropM;rw [if_neg (fun h => by simp at h)]),Kept.refl _ _⟩
 case round =>
  obtain ⟨i,hi,rfl,hd,hk⟩ := hrel
  have hsrc : Src wr 1 A fl.length (fl.map (Value.int .i64)) := by
   refine Src.of_own (own_kept HOWN.out hk (fun b hb hf => ?_))
   have h1 := HNEW.out b hb
   have h2 := HLT.out b hf
   omega
  have hpr := (HP.out.kept HK1.out (fun z => z)).kept hk HGF.out
  have d1 : wr.cell? ⟨gp,1,none⟩ = some (.pointer (some ⟨g,0,none⟩)) := hpr.cell 1
  have HD2 := hZ0 hd;have HK := hZ0 hk;have HSRC := hZ0 hsrc
  clear hd hk hsrc hpr
  by_cases hil : i < fl.length
  ·obtain ⟨x,hx⟩ : ∃ x,fl[i]? = some x := ⟨_,List.getElem?_eq_getElem hil⟩
   obtain ⟨ad,rfl,-,e0⟩ := SlI.ints_cells HSRC.out (by omega) i x hx
   have hxm := (HFA.out.mem x).1 (List.mem_of_getElem? hx)
   have hnt := rises_take HFA.out.rises hx
   have htk := Disk.take_snoc hx
   by_cases hin : a <= x /\ x < b
   ·obtain ⟨h1,h2⟩ := hin
    have q1 : ¬ x < a := by omega
    have q2 : ¬ b <= x := by omega
    have hfin : DiskAt wr g F n (dropM a b (fl.take (i + 1)) m) [] ser boot := DiskAt.congr HD2.out (fun k hk => by
     unfold dropM
     rw [htk]
     by_cases hkx : k = x
     ·subst hkx
      rw [if_neg (fun h => h.2 ⟨h1,h2⟩),if_neg (fun h => hnt h.1)]
     ·simp [hkx])
    have HFIN := hZ0 hfin
    clear hfin hxm hnt htk hx
    go_wp2
    go_roundw
    case rel => exact ⟨i + 1,by omega,by go_num,HFIN.out,HK.out⟩
    case measure => simp [intOf];omega
   ·have hisf : isFile (dropM a b (fl.take i) m) [] x = true := by
     have := hxm.2
     unfold isFile at this ⊢
     unfold dropM
     rw [if_neg (fun h => hnt h.1)]
     exact this
    have hdr := drop_any HD2.out x hxm.1 hn hisf
    have hfin : ∀ w3,DiskAt w3 g F n (mdel (dropM a b (fl.take i) m) x) [] ser boot -> DiskAt w3 g F n (dropM a b (fl.take (i + 1)) m) [] ser boot := fun w3 h => DiskAt.congr h (fun k hk => by
     unfold mdel dropM
     rw [htk]
     by_cases hkx : k = x
     ·subst hkx
      rw [if_pos ⟨by simp,hin⟩,if_pos rfl]
     ·rw [if_neg hkx];simp [hkx])
    have HDR := hZ0 hdr;have HFIN := hZ0 hfin
    clear hdr hfin hisf hxm hnt htk hx
    by_cases q1 : x < a
    ·go_wp2_with fail
     refine HDR.out.mono ?_
     rintro e w3 ⟨rfl,hd3,hk3⟩
     have HD3 := hZ0 (HFIN.out w3 hd3);have HK3 := hZ0 (HK.out.then hk3)
     clear hd3 hk3
     go_wp2
     go_roundw
     case rel => exact ⟨i + 1,by omega,by go_num,HD3.out,HK3.out⟩
     case measure => simp [intOf];omega
    ·have q2 : b <= x := by
      rcases Int.lt_or_le x b with h | h
      ·exact absurd ⟨by omega,h⟩ hin
      ·exact h
     go_wp2_with fail
     refine HDR.out.mono ?_
     rintro e w3 ⟨rfl,hd3,hk3⟩
     have HD3 := hZ0 (HFIN.out w3 hd3);have HK3 := hZ0 (HK.out.then hk3)
     clear hd3 hk3
     go_wp2
     go_roundw
     case rel => exact ⟨i + 1,by omega,by go_num,HD3.out,HK3.out⟩
     case measure => simp [intOf];omega
  ·obtain rfl : i = fl.length := by omega
   rw [List.take_length] at HD2
   have hfin : DiskAt wr g F n (keepM a b m) [] ser boot := DiskAt.congr HD2.out (fun k hk => by
    unfold keepM dropM
    by_cases hin : a <= k /\ k < b
    ·rw [if_pos hin,if_neg (fun h => h.2 hin)]
    ·rw [if_neg hin]
     by_cases hm : k ∈ fl
     ·rw [if_pos ⟨hm,hin⟩]
     ·rw [if_neg (fun h => hm h.1)]
      have h9 : ¬ isFile m [] k = true := fun h => hm ((HFA.out.mem k).2 ⟨hk,h⟩)
      unfold isFile at h9
      exact (by simpa using h9 : m k = none).symm)
   have HFIN := hZ0 hfin
   clear hfin
   go_wp2
   go_end0
   exact ⟨rfl,HFIN.out,(HK1.out.mono (fun _ z => z.elim)).then HK.out⟩
end
end Pt
namespace Pt
open Disk Fr Vn Ops Wl
structure PtAt (w : World) (B gp gw g : Nat) (F : Nat -> Prop) (n : Nat) (m : Disk.Safe) (ps : List Disk.Pc) (ser boot first : Int) (R : St) (T : List (List UInt8)) (A : Option Addr) (c : Nat) (l : List ByteArray) : Prop where
 d : DiskAt w g F n m ps ser boot
 p : PAt w gp (.pointer (some ⟨gw,0,none⟩)) g first (.slice A l.length c)
 wl : WAt w gw g (first + lastOf (cur R T))
 row : NewSl 9 1 B w A l.length c (l.map Value.string)
 log : Log first R T m ps
 low : LowN first m ps
 f1 : 1 <= first
 tx : ∃ k,texts R ++ T = ptx k l /\ k + 1 <= (texts R).length
 hs : ∀ s ∈ l,s.size < 65536
def PF (gp gw : Nat) (F : Nat -> Prop) (A : Option Addr) (n c : Nat) (k : Nat) : Prop := F k \/ k = gp \/ k = gw \/ (Value.slice A n c).ownBlock = some k
section
variable {w : World} {B gp gw g n c : Nat} {F : Nat -> Prop} {m : Disk.Safe} {ps : List Disk.Pc} {ser boot first : Int} {R : St} {T : List (List UInt8)} {A : Option Addr} {l : List ByteArray}
theorem PtAt.kept {w' : World} (h : PtAt w B gp gw g F n m ps ser boot first R T A c l) (hk : Kept NoF w w') : PtAt w' B gp gw g F n m ps ser boot first R T A c l :=
 ⟨h.d.kept hk (fun _ _ z => z),h.p.kept hk (fun z => z),h.wl.kept hk (fun z => z),h.row.kept hk,h.log,h.low,h.f1,h.tx,h.hs⟩
theorem pnone_any {v0 v3 : Value} {f : Int} (h : PAt w gp v0 g f v3) : Calls Tryz.prog 67 #[.pointer (some ⟨gp,0,none⟩)] w fun e w' => e = .returned (.bool false) /\ w = w' := by
 have c1 : w.cell? ⟨gp,1,none⟩ = some (.pointer (some ⟨g,0,none⟩)) := h.cell 1
 clear h
 go_enter Tryz.func67,Tryz.ntmps67
 go_wp2
 go_ret
 exact ⟨rfl,rfl⟩
theorem texts_any (h : PtAt w B gp gw g F n m ps ser boot first R T A c l) (hl : l.length <= 1000000) :
  Calls Tryz.prog 31 #[.pointer (some ⟨gp,0,none⟩)] w fun e w' => ∃ A' c',e = .returned (.slice A' l.length c') /\ NewSl 9 1 w.heap.size w' A' l.length c' (l.map Value.string) /\ Below w.heap.size w w' := by
 have hno := pnone_any h.p
 have hcl := clone_any w A c l (by have := Src.of_own h.row.1;exact this) (by omega)
 have c3 : w.cell? ⟨gp,3,none⟩ = some (.slice A l.length c) := h.p.cell 3
 have HNO := hZ0 hno;have HCL := hZ0 hcl
 clear hno hcl h hl
 go_enter Tryz.func31,Tryz.ntmps31
 go_wp2_with fail
 refine HNO.out.mono ?_
 rintro e w' ⟨rfl,rfl⟩
 go_wp2_with fail
 refine HCL.out.mono ?_
 rintro e w' ⟨A',c',rfl,h1,h2⟩
 go_wp2
 go_ret
 exact ⟨A',c',rfl,h1,h2⟩
theorem PtAt.gp_not (h : PtAt w B gp gw g F n m ps ser boot first R T A c l) : ¬ F gp /\ ¬ F gw /\ gp ≠ gw := ⟨DiskAt.not h.d h.p (by decide) (by decide),DiskAt.not h.d h.wl (by decide) (by decide),h.p.ne h.wl (by decide)⟩
theorem PtAt.row_not (h : PtAt w B gp gw g F n m ps ser boot first R T A c l) {k : Nat} (hk : (Value.slice A l.length c).ownBlock = some k) : ¬ F k /\ k ≠ gp /\ k ≠ gw := by
 obtain ⟨cs,hh⟩ := own_has h.row.1 hk
 exact ⟨DiskAt.not h.d hh (by decide) (by decide),fun e => by subst e;exact Has.ne hh h.p (by decide) rfl,fun e => by subst e;exact Has.ne hh h.wl (by decide) rfl⟩
def PAppPost (w : World) (B gp gw g : Nat) (F : Nat -> Prop) (n : Nat) (m : Disk.Safe) (ps : List Disk.Pc) (ser boot first : Int) (R : St) (T : List (List UInt8)) (A : Option Addr) (c : Nat) (l : List ByteArray) (s : ByteArray) (e : Ending) (w' : World) : Prop :=
 e = .returned (.int .i64 0) /\ ∃ F' A' c',PtAt w' B gp gw g F' n m (ps ++ [(first + lastOf (cur R T),ofL (frameL (84 :: bl s)))]) ser boot first R (T ++ [84 :: bl s]) A' c' (l ++ [s]) /\ Kept (PF gp gw F A l.length c) w w' /\ (∀ k,F' k -> F k \/ w.heap.size <= k)
end
end Pt
namespace Pt
open Disk Fr Vn Ops Wl
theorem ptx_small {k : Nat} (hk : k < 18446744073709551616) {l : List ByteArray} (h : ∀ s ∈ l,s.size < 65536) : ∀ t ∈ ptx k l,t.length <= 65536 := by
 intro t ht
 unfold ptx at ht
 rcases List.mem_cons.1 ht with rfl | ht
 ·have := put_le hk;simp;omega
 ·rw [List.mem_map] at ht
  obtain ⟨s,hs,rfl⟩ := ht
  have := h s hs
  simp [size_bl];omega
theorem cur_nil_len (T : List (List UInt8)) : (cur [] T).length <= T.length := by
 have := cur_grow [] T
 simpa using this
theorem mis_keep {f b : Int} {R : St} {m : Disk.Safe} (h : MIs f R m) (hb : f + R.length <= b) : MIs f R (keepM f b m) := by
 intro i
 unfold keepM
 by_cases hi : f <= f + (i : Int) /\ f + (i : Int) < b
 ·rw [if_pos hi];exact h i
 ·rw [if_neg hi]
  unfold fileAt
  rw [if_neg (by omega)]
theorem log_begun {f : Int} {m : Disk.Safe} {ps : List Disk.Pc} {k : Nat} {l : List ByteArray} (hk : k < 18446744073709551616) (hl : ∀ s ∈ l,s.size < 65536) (h : Log f [] [] m ps) : Log f (cur [] (ptx k l)) [] (syncM m (ps ++ pcsOf f [] (ptx k l))) [] := by
 have := (log_of h (ptx_small hk hl)).sync
 exact this
theorem log_kept {f b : Int} {R : St} {m : Disk.Safe} (h : Log f R [] m []) (hb : f + R.length <= b) : Log f R [] (keepM f b m) [] := ⟨mis_keep h.safe hb,rfl,h.ok,h.T⟩
section
variable {w : World} {B gp gw g n c : Nat} {F : Nat -> Prop} {m : Disk.Safe} {ps : List Disk.Pc} {ser boot first : Int} {R : St} {T : List (List UInt8)} {A : Option Addr} {l : List ByteArray}
def PNewPost (w : World) (g : Nat) (F : Nat -> Prop) (n : Nat) (ser boot : Int) (e : Ending) (w' : World) : Prop :=
 ∃ gp gw F' m' A c,e = .returned (.tuple #[.pointer (some ⟨gp,0,none⟩),.int .i64 0]) /\ PtAt w' w.heap.size gp gw g F' (n + 1) m' [] ser boot 1 (cur [] (ptx 0 [])) [] A c [] /\ w.heap.size <= gp /\ w.heap.size <= gw /\ (∀ k,F' k -> F k \/ w.heap.size <= k) /\ Kept F w w'
theorem new_any' (hd : DiskAt w g F n (fun _ => none) [] ser boot) (hn : n <= 100000) : Calls Tryz.prog 39 #[.pointer (some ⟨g,0,none⟩)] w (PNewPost w g F n ser boot) := by
 have hfi := files_any hd (fun p hp => by cases hp) hn (by decide)
 have HFI := hZ0 hfi;have HD := hZ0 hd
 clear hfi hd
 go_enter Tryz.func39,Tryz.ntmps39
 go_wp2_with fail
 refine HFI.out.mono ?_
 rintro e w1 ⟨fl,A,c,rfl,hfa,hown,hnew,hk1⟩
 have hfl : fl = [] := by
  rcases fl with _ | ⟨x,fl⟩
  ·rfl
  ·have := ((hfa.mem x).1 (by simp)).2
   simp [isFile] at this
 subst hfl
 obtain ⟨w2,hw2⟩ : ∃ w2,w1.alloc (.cells #[.pointer none,.pointer (some ⟨g,0,none⟩),.int .i64 0,.slice none 0 0] 158) = w2 := ⟨_,rfl⟩
 have hk2 : Kept NoF w w2 := by rw [<- hw2];exact hk1.alloc _
 have hp2 : PAt w2 w1.heap.size (.pointer none) g 0 (.slice none 0 0) := by rw [<- hw2];exact Has.new _ _ _
 have hd2 := HD.out.kept hk2 (fun _ _ z => z)
 have hfit : Fits n (fun _ => none) [] := ⟨hn,by decide,fun f => Nat.zero_le _,fun p hp => by cases hp⟩
 have hbg := begin_any (.pointer none) (.slice none 0 0) hp2 hd2 (log_new 1) hfit none 0 [] (Src.nil _ _ _) (fun _ ad e => by cases e) (fun s hs => by cases hs) (by decide) (by decide) (by decide)
 have HBG := hZ0 hbg;have HW2 := hZ0 hw2;have HK2 := hZ0 hk2;have HK1 := hZ0 hk1.size
 clear hfa hown hnew hk1 hw2 hk2 hp2 hd2 hfit hbg
 go_wp2_with fail
 rw [HW2.out]
 refine HBG.out.mono ?_
 rintro e w3 ⟨rfl,F3,gw,A3,c3,hd3,hw3,hp3,hn3,hgw3,hg3,hk3⟩
 have hfin : PNewPost w g F n ser boot (.returned (.tuple #[.pointer (some ⟨w1.heap.size,0,none⟩),.int .i64 0])) w3 := by
  refine ⟨w1.heap.size,gw,F3,_,A3,c3,rfl,⟨hd3,hp3,hw3,⟨hn3.1,fun k hk => Nat.le_trans HK2.out.size (hn3.2 k hk)⟩,log_begun (by decide) (fun s hs => by cases hs) (log_new 1),?_,Int.le_refl _,⟨0,by rw [cur_texts];rfl,by rw [cur_texts];decide⟩,fun s hs => by cases hs⟩,HK1.out,Nat.le_trans HK2.out.size hgw3,fun k hk => ?_,?_⟩
  ·have : LowN 1 (fun _ => none) ([] ++ pcsOf 1 [] (ptx 0 [])) := ⟨fun x hx => rfl,fun p hp => (pcsOf_mem 1 [] (ptx 0 []) (ptx_small (by decide) (fun s hs => by cases hs)) p hp).2.1⟩
   exact this.sync
  ·rcases hg3 k hk with h | h
   ·exact .inl h
   ·exact .inr (Nat.le_trans HK2.out.size h)
  ·exact (HK2.out.mono (fun _ z => z.elim)).trans hk3 (fun k hk => by rcases hk with h | h;exact .inl h;exact .inr (by rw [h];exact HK1.out))
 have HFIN := hZ0 hfin
 clear hd3 hw3 hp3 hn3 hgw3 hg3 hk3 hfin
 go_wp2
 go_ret2
 exact HFIN.out
end
end Pt
end Go.Proofs.YtgffjliedjhbaaaGreat

/- Part 41 of what the proof needs. -/
import Derived.Test.YtgffjliedjhbaaaGreatZS26
import Derived.Test.YtgffjliedjhbaaaGreatZS30
import Derived.Test.YtgffjliedjhbaaaGreatZS36
import Derived.Test.YtgffjliedjhbaaaGreatZS39
set_option linter.unusedSimpArgs false
set_option linter.unusedVariables false
set_option maxHeartbeats 32000000
set_option maxRecDepth 100000
namespace Go.Proofs.YtgffjliedjhbaaaGreat
open Go.RowKit
set_option maxRecDepth 100000
namespace Pt
open Disk Fr Vn Ops Wl
theorem idxlong_none (w : World) (A : Option Addr) (c : Nat) (l : List ByteArray) (hl : Src w 1 A l.length (l.map Value.string)) (hlen : l.length <= 1000000) (hs : ∀ s ∈ l,s.size < 65536) :
  Calls Tryz.prog 222 #[.slice A l.length c,.func (.func 158) #[] #[]] w fun e w' => e = .returned (.int .i64 (-1)) /\ w = w' := by
 have HL := hZ0 hl;have HS := hZ0 hs
 clear hl hs
 go_enter Tryz.func222,Tryz.ntmps222
 go_wp2_with fail
 go_loop [5,8] (fun v5 v8 => ∃ i : Nat,i <= l.length /\ v8 = .int .i64 i) (fun _ v8 => l.length - (intOf v8).toNat)
 case atStart => exact ⟨0,Nat.zero_le _,rfl⟩
 case round =>
  obtain ⟨i,hi,rfl⟩ := hrel
  by_cases hil : i < l.length
  ·obtain ⟨s,hs⟩ : ∃ s,l[i]? = some s := ⟨_,List.getElem?_eq_getElem hil⟩
   obtain ⟨ad,rfl,-,e0⟩ := SlI.str_cells HL.out (by omega) i s hs
   have hs6 : s.size < 65536 := HS.out s (List.mem_of_getElem? hs)
   have hlo := long_any w s false (decide_eq_false (by omega))
   have HLO := hZ0 hlo
   clear hlo hs6 hs
   go_wp2_with fail
   refine HLO.out.mono ?_
   rintro e w' ⟨rfl,rfl⟩
   go_wp2
   go_round
   case rel => exact ⟨i + 1,by omega,by go_num⟩
   case measure => simp [intOf];omega
  ·obtain rfl : i = l.length := by omega
   go_wp2
   go_ret
   exact ⟨rfl,rfl⟩
theorem clong_no (w : World) (A : Option Addr) (c : Nat) (l : List ByteArray) (hl : Src w 1 A l.length (l.map Value.string)) (hlen : l.length <= 1000000) (hs : ∀ s ∈ l,s.size < 65536) :
  Calls Tryz.prog 162 #[.slice A l.length c,.func (.func 158) #[] #[]] w fun e w' => e = .returned (.bool false) /\ w = w' := by
 have HI := hZ0 (idxlong_none w A c l hl hlen hs)
 clear hl hlen hs
 go_enter Tryz.func162,Tryz.ntmps162
 go_wp2_with fail
 refine HI.out.mono ?_
 rintro e w' ⟨rfl,rfl⟩
 go_wp2
 go_ret
 exact ⟨rfl,rfl⟩
theorem last_file {m : Disk.Safe} {ps : List Disk.Pc} {fl : List Int} {first : Int} {K : Nat} (h : FilesAre m ps fl) (hf : ∀ x,isFile m ps x = decide (first <= x /\ x < first + K)) (h0 : 0 <= first) (h1 : first + K <= 1152921504606846976) (hK : 0 < K) :
  0 < fl.length /\ fl[fl.length - 1]? = some (first + K - 1) := by
 have hm : first + K - 1 ∈ fl := (h.mem _).2 ⟨i64_small (by omega) (by omega),by rw [hf];simp;omega⟩
 obtain ⟨j,hj,e⟩ := List.getElem_of_mem hm
 have hpos : 0 < fl.length := by omega
 refine ⟨hpos,?_⟩
 rw [List.getElem?_eq_getElem (by omega)]
 have hy := ((h.mem fl[fl.length - 1]).1 (List.getElem_mem _)).2
 rw [hf] at hy
 simp only [decide_eq_true_eq] at hy
 congr 1
 by_cases hjl : j = fl.length - 1
 ·subst hjl;exact e
 ·have := List.pairwise_iff_getElem.1 h.rises j (fl.length - 1) hj (by omega) (by omega)
  omega
section
variable {w : World} {B gp gw g n c : Nat} {F : Nat -> Prop} {m : Disk.Safe} {ps : List Disk.Pc} {ser boot first : Int} {R : St} {T : List (List UInt8)} {A : Option Addr} {l : List ByteArray}
def PSavePost (w : World) (B gp g : Nat) (F : Nat -> Prop) (n : Nat) (ps : List Disk.Pc) (ser boot first' : Int) (l' : List ByteArray) (e : Ending) (w' : World) : Prop :=
 e = .returned (.int .i64 0) /\ ∃ gw' F' m' A' c',PtAt w' B gp gw' g F' (n + ps.length + l'.length + 1) m' [] ser boot first' (cur [] (ptx l'.length l')) [] A' c' l' /\ w.heap.size <= gw' /\ (∀ k,F' k -> F k \/ w.heap.size <= k) /\ Kept (fun k => F k \/ k = gp) w w' /\ (∀ k,(Value.slice A' l'.length c').ownBlock = some k -> w.heap.size <= k)
theorem psave_any (h : PtAt w B gp gw g F n m ps ser boot first R T A c l) (hf : Fits n m ps) (hB : B <= w.heap.size) (A0 : Option Addr) (c0 : Nat) (l' : List ByteArray) (hA : Src w 1 A0 l'.length (l'.map Value.string))
  (hAF : 0 < l'.length -> ∀ ad,A0 = some ad -> ¬ F ad.block /\ ad.block ≠ gp) (hs : ∀ s ∈ l',s.size < 65536) (hl' : l'.length <= 10000) (h2 : first + (cur R T).length + l'.length + 2 <= 1073741824) (h3 : n + ps.length + l'.length + 2 < 100000) :
  Calls Tryz.prog 92 #[.pointer (some ⟨gp,0,none⟩),.slice A0 l'.length c0] w (PSavePost w B gp g F n ps ser boot (first + (cur R T).length) l') := by
 have hno := pnone_any h.p
 have hcl := clong_no w A0 c0 l' hA (by omega) hs
 have hfi := files_any h.d hf.i64 hf.n (by have := hf.len;omega)
 have c1 : w.cell? ⟨gp,1,none⟩ = some (.pointer (some ⟨g,0,none⟩)) := h.p.cell 1
 have c2 : w.cell? ⟨gp,2,none⟩ = some (.int .i64 first) := h.p.cell 2
 obtain ⟨K,hK⟩ : ∃ K,(cur R T).length = K := ⟨_,rfl⟩
 have hKpos : 0 < K := by
  rcases Nat.eq_zero_or_pos K with h0 | h0
  ·rw [h0] at hK
   have h9 := cur_texts R T
   rw [List.eq_nil_of_length_eq_zero hK] at h9
   obtain ⟨k,h4,_⟩ := h.tx
   rw [h4] at h9
   cases h9
  ·exact h0
 have hif := h.low.isFile h.log
 have hab := Log.above h.log
 rw [hK] at h2 hif hab ⊢
 have hf1 := h.f1
 have H := hZ0 h;have HNO := hZ0 hno;have HCL := hZ0 hcl;have HFI := hZ0 hfi;have HIF := hZ0 hif;have HAB := hZ0 hab;have HF := hZ0 hf;have HA := hZ0 hA;have HAF := hZ0 hAF;have HS := hZ0 hs
 clear h hno hcl hfi hif hab hf hA hAF hs hK
 go_enter Tryz.func92,Tryz.ntmps92
 go_wp2_with fail
 refine HNO.out.mono ?_
 rintro e w' ⟨rfl,rfl⟩
 go_wp2_with fail
 refine HCL.out.mono ?_
 rintro e w' ⟨rfl,rfl⟩
 go_wp2_with fail
 refine HFI.out.mono ?_
 rintro e w1 ⟨fl,A1,c1',rfl,hfa,hown,hnew,hk1⟩
 obtain ⟨hpos,hlast⟩ := last_file hfa HIF.out (by omega) (by omega) hKpos
 obtain ⟨ad1,rfl,-,e0⟩ := SlI.ints_cells (Src.of_own hown) hpos _ _ hlast
 have hcap := own_cap hown
 unfold maxLen at hcap
 have hw1 : IntKind.i64.wrap ((fl.length : Int) - 1) = (fl.length : Int) - 1 := IntWalk.i64_in _ (by omega)
 have hd0 : 0 <= (fl.length : Int) - 1 := by omega
 have hd1 : (fl.length : Int) - 1 < fl.length := by omega
 have ht1 : ((fl.length : Int) - 1).toNat = fl.length - 1 := by omega
 have hpos' : (0 : Int) < fl.length := by omega
 have hp1 := H.out.p.kept hk1 (fun z => z)
 have hdk1 := H.out.d.kept hk1 (fun _ _ z => z)
 have hbg := begin_any (.pointer (some ⟨gw,0,none⟩)) (.slice A l.length c) hp1 hdk1 HAB.out HF.out A0 c0 l' (HA.out.kept hk1 (fun _ _ z => z)) HAF.out HS.out (by omega) (by omega) (by omega)
 have hsum : (first + (K : Int) - 1) + 1 = first + K := by omega
 have HBG := hZ0 hbg;have HK1 := hZ0 hk1;have HSUM := hZ0 hsum
 clear hfa hown hnew hk1 hlast hcap hp1 hdk1 hbg hsum
 go_wp2_with fail
 refine HBG.out.mono ?_
 rintro e w3 ⟨rfl,F3,gw3,A3,c3,hd3,hw3,hp3,hn3,hgw3,hg3,hk3⟩
 have hn3' : n + (ps ++ pcsOf (first + K) [] (ptx l'.length l')).length = n + ps.length + l'.length + 1 := by rw [List.length_append,pcsOf_len,ptx_len];omega
 rw [hn3'] at hd3
 have hkp := keep_any (.pointer (some ⟨gw3,0,none⟩)) (.slice A3 l'.length c3) hp3 hd3 (by omega) (first + K) 1073741826
 have hcl3 := cur_nil_len (ptx l'.length l')
 rw [ptx_len] at hcl3
 have hfin : ∀ w4,DiskAt w4 g F3 (n + ps.length + l'.length + 1) (keepM (first + K) 1073741826 (syncM m (ps ++ pcsOf (first + K) [] (ptx l'.length l')))) [] ser boot -> Kept F3 w3 w4 -> PSavePost w B gp g F n ps ser boot (first + K) l' (.returned (.int .i64 0)) w4 := by
  intro w4 hd4 hk4
  have hn1 : ¬ F3 gp := DiskAt.not hd3 hp3 (by decide) (by decide)
  have hn2 : ¬ F3 gw3 := DiskAt.not hd3 hw3 (by decide) (by decide)
  refine ⟨rfl,gw3,F3,_,A3,c3,⟨hd4,hp3.kept hk4 hn1,hw3.kept hk4 hn2,⟨own_kept hn3.1 hk4 (fun k hk hh => ?_),fun k hk => ?_⟩,log_kept (log_begun (by omega) HS.out HAB.out) (by omega),⟨fun x hx => by unfold keepM;rw [if_neg (by omega)],fun p hp => by cases hp⟩,by omega,⟨l'.length,by rw [cur_texts,List.append_nil];rfl,by rw [cur_texts,List.length_append,ptx_len];simp⟩,HS.out⟩,Nat.le_trans HK1.out.size hgw3,fun k hk => ?_,?_,fun k hk => Nat.le_trans HK1.out.size (hn3.2 k hk)⟩
  ·obtain ⟨cs,h9⟩ := own_has hn3.1 hk
   exact DiskAt.not hd3 h9 (by decide) (by decide) hh
  ·exact Nat.le_trans hB (Nat.le_trans HK1.out.size (hn3.2 k hk))
  ·rcases hg3 k hk with z | z
   ·exact .inl z
   ·exact .inr (Nat.le_trans HK1.out.size z)
  ·refine (((HK1.out.mono (fun _ z => z.elim)).then hk3)).trans hk4 (fun k hk => ?_)
   rcases hg3 k hk with z | z
   ·exact .inl (.inl z)
   ·exact .inr (Nat.le_trans HK1.out.size z)
 have d2 : w3.cell? ⟨gp,2,none⟩ = some (.int .i64 (first + K)) := hp3.cell 2
 have HKP := hZ0 hkp;have HFIN := hZ0 hfin
 clear hd3 hw3 hp3 hn3 hgw3 hg3 hk3 hn3' hkp hfin hcl3 hw1 hd0 hd1 ht1 hpos' e0 hpos
 go_wp2_with fail
 refine HKP.out.mono ?_
 rintro e w4 ⟨rfl,hd4,hk4⟩
 have HE := hZ0 (HFIN.out w4 hd4 hk4)
 clear hd4 hk4
 go_wp2
 go_ret
 exact HE.out
end
end Pt
namespace Pt
open Disk Fr Vn Ops Wl
theorem rises_eq : ∀ {a b : List Int},a.Pairwise (· < ·) -> b.Pairwise (· < ·) -> (∀ x,x ∈ a ↔ x ∈ b) -> a = b
 | [],[],_,_,_ => rfl
 | [],y :: b,_,_,h => by have := (h y).2 (by simp);simp at this
 | x :: a,[],_,_,h => by have := (h x).1 (by simp);simp at this
 | x :: a,y :: b,ha,hb,h => by
  rw [List.pairwise_cons] at ha hb
  have hxy : x = y := by
   rcases List.mem_cons.1 ((h x).1 (by simp)) with e | h1
   ·exact e
   ·rcases List.mem_cons.1 ((h y).2 (by simp)) with e | h2
    ·exact e.symm
    ·have := hb.1 x h1;have := ha.1 y h2;omega
  subst hxy
  rw [rises_eq ha.2 hb.2 (fun z => ?_)]
  constructor
  ·intro hz
   rcases List.mem_cons.1 ((h z).1 (List.mem_cons_of_mem _ hz)) with e | h1
   ·have := ha.1 z hz;omega
   ·exact h1
  ·intro hz
   rcases List.mem_cons.1 ((h z).2 (List.mem_cons_of_mem _ hz)) with e | h1
   ·have := hb.1 z hz;omega
   ·exact h1
def nums (first : Int) (K : Nat) : List Int := (List.range K).map fun (i : Nat) => first + (i : Int)
theorem files_nums {m : Disk.Safe} {ps : List Disk.Pc} {fl : List Int} {first : Int} {K : Nat} (h : FilesAre m ps fl) (hf : ∀ x,isFile m ps x = decide (first <= x /\ x < first + K)) (h0 : 0 <= first) (h1 : first + K <= 1152921504606846976) : fl = nums first K := by
 refine rises_eq h.rises ?_ (fun x => ?_)
 ·unfold nums
  rw [List.pairwise_map]
  exact List.pairwise_lt_range.imp (fun h => by omega)
 ·rw [h.mem,hf]
  unfold nums
  simp only [decide_eq_true_eq,List.mem_map,List.mem_range]
  constructor
  ·rintro ⟨_,h2,h3⟩
   exact ⟨(x - first).toNat,by omega,by omega⟩
  ·rintro ⟨i,h2,rfl⟩
   exact ⟨i64_small (by omega) (by omega),by omega,by omega⟩
theorem low_size {first : Int} {R : St} {T : List (List UInt8)} {m : Disk.Safe} {ps : List Disk.Pc} {n : Nat} (h : LowN first m ps) (hl : Log first R T m ps) (h1 : 1 <= first) (h2 : first + (R.length + T.length : Nat) <= 1073741824) (hn : n <= 100000) (hT : T.length < 100000) : Fits n m ps :=
 h.low.fits hl h1 h2 hn hT
structure PtW (w0 w : World) (gp gw g : Nat) (F : Nat -> Prop) (n : Nat) (m : Disk.Safe) (ps : List Disk.Pc) (boot first : Int) (R : St) (T : List (List UInt8)) (A : Option Addr) (c : Nat) (l : List ByteArray) : Prop where
 pt : PtAt w w0.heap.size gp gw g F n m ps 1 boot first R T A c l
 f : ∀ k,F k -> w0.heap.size <= k
 gp : w0.heap.size <= gp
 gw : w0.heap.size <= gw
 k : Kept NoF w0 w
section
variable {w0 w w' : World} {gp gw g n c : Nat} {F : Nat -> Prop} {m : Disk.Safe} {ps : List Disk.Pc} {boot first : Int} {R : St} {T : List (List UInt8)} {A : Option Addr} {l : List ByteArray}
theorem PtW.kept (h : PtW w0 w gp gw g F n m ps boot first R T A c l) (hk : Kept NoF w w') : PtW w0 w' gp gw g F n m ps boot first R T A c l :=
 ⟨h.pt.kept hk,h.f,h.gp,h.gw,h.k.then hk⟩
theorem PtW.app (h : PtW w0 w gp gw g F n m ps boot first R T A c l) {s : ByteArray} {e : Ending} (ha : PAppPost w w0.heap.size gp gw g F n m ps 1 boot first R T A c l s e w') :
  e = .returned (.int .i64 0) /\ ∃ F' A' c',PtW w0 w' gp gw g F' n m (ps ++ [(first + lastOf (cur R T),ofL (frameL (84 :: bl s)))]) boot first R (T ++ [84 :: bl s]) A' c' (l ++ [s]) := by
 obtain ⟨he,F',A',c',hp,hk,hG⟩ := ha
 refine ⟨he,F',A',c',hp,fun k hk2 => ?_,h.gp,h.gw,h.k.trans hk (fun k hk2 => .inr ?_)⟩
 ·rcases hG k hk2 with z | z
  ·exact h.f k z
  ·exact Nat.le_trans h.k.size z
 ·rcases hk2 with z | z | z | z
  ·exact h.f k z
  ·rw [z];exact h.gp
  ·rw [z];exact h.gw
  ·exact h.pt.row.2 k z
end
end Pt
namespace Mas
open Plan Vn Mst Wat IM
structure OutR where
 to : Int
 body : ByteArray
deriving DecidableEq
def ocell (o : OutR) : List Value := [.int .i64 o.to,.string o.body]
def ocells (l : List OutR) : List Value := l.flatMap ocell
structure LgM where
 first : Int
 R : Wl.St
 T : List (List UInt8)
 l : List ByteArray
structure MR where
 lg : LgM
 st : StR
 pins : List PinR
 ns : List Int
 tk : Int
 marks : Int -> Option Int
 serial : Int -> Option Int
 last : Int
 joins : Int -> Bool
 leaves : Int -> Bool
 lost : Int -> Bool
 out : List OutR
 cnt : Nat
structure MX where
 mb : Nat
 gp : Nat
 gw : Nat
 g : Nat
 sb : Nat
 wb : Nat
 mm : Nat
 se : Nat
 jo : Nat
 le : Nat
 lo : Nat
 F : Nat -> Prop
 FS : Nat -> Prop
 pA : Option Addr
 pc : Nat
 oA : Option Addr
 oc : Nat
 A : Option Addr
 c : Nat
 n : Nat
 m : Disk.Safe
 ps : List Disk.Pc
 ser : Int
 boot : Int
def MX.fix (X : MX) : List Nat := [X.mb,X.gp,X.g,X.sb,X.wb,X.mm,X.se,X.jo,X.le,X.lo]
def mcellsM (X : MX) (M : MR) : Array Value := #[.pointer (some ⟨X.g,0,none⟩),.pointer (some ⟨X.gp,0,none⟩),.pointer (some ⟨X.sb,0,none⟩),.slice X.pA M.pins.length X.pc,.pointer (some ⟨X.wb,0,none⟩),.map (some X.mm),.map (some X.se),.int .u64 M.last,.map (some X.jo),.map (some X.le),.map (some X.lo),.slice X.oA M.out.length X.oc]
def parts (X : MX) (M : MR) : Nat -> Nat -> Prop
 | 0 => fun k => k = X.mb
 | 1 => Pt.PF X.gp X.gw X.F X.A M.lg.l.length X.c
 | 2 => X.FS
 | 3 => fun k => (Value.slice X.pA M.pins.length X.pc).ownBlock = some k
 | 4 => fun k => k = X.wb
 | 5 => fun k => k = X.mm
 | 6 => fun k => k = X.se
 | 7 => fun k => k = X.jo
 | 8 => fun k => k = X.le
 | 9 => fun k => k = X.lo
 | 10 => fun k => (Value.slice X.oA M.out.length X.oc).ownBlock = some k
 | _ => fun _ => False
def PtM (w : World) (X : MX) (L : LgM) : Prop := Pt.PtAt w 0 X.gp X.gw X.g X.F X.n X.m X.ps X.ser X.boot L.first L.R L.T X.A X.c L.l
def Comp (X : MX) (M : MR) (w : World) : Nat -> Prop
 | 0 => Has w X.mb 181 (mcellsM X M)
 | 1 => PtM w X M.lg
 | 2 => StAt w X.sb X.FS M.st
 | 3 => w.ownsRow 0 112 3 (.slice X.pA M.pins.length X.pc) M.pins.length (pcells M.pins)
 | 4 => WtAt w X.wb M.ns M.tk
 | 5 => IMap .u64 30 w X.mm M.cnt M.marks
 | 6 => IMap .i64 3 w X.se M.cnt M.serial
 | 7 => SetIs w X.jo M.cnt M.joins
 | 8 => SetIs w X.le M.cnt M.leaves
 | 9 => SetIs w X.lo M.cnt M.lost
 | 10 => w.ownsRow 0 409 2 (.slice X.oA M.out.length X.oc) M.out.length (ocells M.out)
 | _ => True
theorem PtM.keptG {w w' : World} {X : MX} {L : LgM} {G : Nat -> Prop} (h : PtM w X L) (hk : Kept G w w') (hs : ∀ k,Pt.PF X.gp X.gw X.F X.A L.l.length X.c k -> ¬ G k) : PtM w' X L :=
 ⟨h.d.kept hk (fun k hf => hs k (.inl hf)),h.p.kept hk (hs _ (.inr (.inl rfl))),h.wl.kept hk (hs _ (.inr (.inr (.inl rfl)))),⟨own_kept h.row.1 hk (fun g hg => hs g (.inr (.inr (.inr hg)))),h.row.2⟩,h.log,h.low,h.f1,h.tx,h.hs⟩
theorem Comp.kept {X : MX} {M : MR} {w w' : World} {G : Nat -> Prop} {i : Nat} (h : Comp X M w i) (hk : Kept G w w') (hs : ∀ k,parts X M i k -> ¬ G k) : Comp X M w' i := by
 rcases i with _ | _ | _ | _ | _ | _ | _ | _ | _ | _ | _ | i
 ·exact Has.kept h hk (hs _ rfl)
 ·exact PtM.keptG h hk hs
 ·exact StAt.kept h hk hs
 ·exact own_kept h hk hs
 ·exact Has.kept h hk (hs _ rfl)
 ·exact IMap.kept h hk (hs _ rfl)
 ·exact IMap.kept h hk (hs _ rfl)
 ·exact SetIs.kept h hk (hs _ rfl)
 ·exact SetIs.kept h hk (hs _ rfl)
 ·exact SetIs.kept h hk (hs _ rfl)
 ·exact own_kept h hk hs
 ·trivial
theorem Comp.lt {X : MX} {M : MR} {w : World} {i k : Nat} (h : Comp X M w i) (hp : parts X M i k) : k < w.heap.size := by
 rcases i with _ | _ | _ | _ | _ | _ | _ | _ | _ | _ | _ | i
 ·obtain rfl : k = X.mb := hp
  exact Has.lt h
 ·have hh : PtM w X M.lg := h
  rcases hp with hp | hp | hp | hp
  ·exact hh.d.lt k hp
  ·rw [hp];exact Has.lt hh.p
  ·rw [hp];exact Has.lt hh.wl
  ·exact own_lt hh.row.1 hp
 ·exact StAt.lt h k hp
 ·exact own_lt h hp
 ·obtain rfl : k = X.wb := hp
  exact Has.lt h
 ·obtain rfl : k = X.mm := hp
  exact IMap.lt h
 ·obtain rfl : k = X.se := hp
  exact IMap.lt h
 ·obtain rfl : k = X.jo := hp
  exact SetIs.lt h
 ·obtain rfl : k = X.le := hp
  exact SetIs.lt h
 ·obtain rfl : k = X.lo := hp
  exact SetIs.lt h
 ·exact own_lt h hp
 ·exact hp.elim
structure MAt (w : World) (X : MX) (M : MR) : Prop where
 c : ∀ i,Comp X M w i
 ap : ∀ i j k,parts X M i k -> parts X M j k -> i = j
def foot (X : MX) (M : MR) (k : Nat) : Prop := ∃ i,parts X M i k
theorem MAt.lt {w : World} {X : MX} {M : MR} (h : MAt w X M) {k : Nat} (hk : foot X M k) : k < w.heap.size := by
 obtain ⟨i,hi⟩ := hk
 exact (h.c i).lt hi
theorem MAt.quiet {w w' : World} {X : MX} {M : MR} (h : MAt w X M) (hk : Kept NoF w w') : MAt w' X M := ⟨fun i => (h.c i).kept hk (fun _ _ z => z),h.ap⟩
structure Step (w : World) (X : MX) (M : MR) (w' : World) (X' : MX) (M' : MR) : Prop where
 at' : MAt w' X' M'
 g : ∀ k,foot X' M' k -> foot X M k \/ w.heap.size <= k
 k : Kept (foot X M) w w'
 fx : X'.fix = X.fix
theorem Step.mb {w w' : World} {X X' : MX} {M M' : MR} (h : Step w X M w' X' M') : X'.mb = X.mb := by have := h.fx;simp only [MX.fix,List.cons.injEq] at this;exact this.1
theorem Step.sb {w w' : World} {X X' : MX} {M M' : MR} (h : Step w X M w' X' M') : X'.sb = X.sb := by have := h.fx;simp only [MX.fix,List.cons.injEq] at this;exact this.2.2.2.1
theorem Step.gp {w w' : World} {X X' : MX} {M M' : MR} (h : Step w X M w' X' M') : X'.gp = X.gp := by have := h.fx;simp only [MX.fix,List.cons.injEq] at this;exact this.2.1
theorem Step.dk {w w' : World} {X X' : MX} {M M' : MR} (h : Step w X M w' X' M') : X'.g = X.g := by have := h.fx;simp only [MX.fix,List.cons.injEq] at this;exact this.2.2.1
theorem Step.refl {w w' : World} {X : MX} {M : MR} (h : MAt w X M) (hk : Kept NoF w w') : Step w X M w' X M := ⟨h.quiet hk,fun _ h => .inl h,Kept.up hk,rfl⟩
theorem Step.trans {w w1 w2 : World} {X X1 X2 : MX} {M M1 M2 : MR} (h : Step w X M w1 X1 M1) (k : Step w1 X1 M1 w2 X2 M2) : Step w X M w2 X2 M2 :=
 ⟨k.at',fun i hi => by
  rcases k.g i hi with y | y
  ·exact h.g i y
  ·have := h.k.size;exact .inr (by omega),h.k.trans k.k h.g,k.fx.trans h.fx⟩
theorem Step.quiet {w w1 w2 : World} {X X1 : MX} {M M1 : MR} (h : Step w X M w1 X1 M1) (hk : Kept NoF w1 w2) : Step w X M w2 X1 M1 := h.trans (Step.refl h.at' hk)
theorem MAt.upd {w w' : World} {X X' : MX} {M M' : MR} (h : MAt w X M) (i : Nat) (hk : Kept (parts X M i) w w') (hsp : ∀ j,j ≠ i -> parts X' M' j = parts X M j) (hsc : ∀ j,j ≠ i -> Comp X M w' j -> Comp X' M' w' j)
  (hc : Comp X' M' w' i) (hg : ∀ k,parts X' M' i k -> parts X M i k \/ w.heap.size <= k) (hmb : X'.fix = X.fix) : Step w X M w' X' M' := by
 have hap : ∀ j k,j ≠ i -> parts X M j k -> ¬ parts X M i k := fun j k hj h1 h2 => hj (h.ap j i k h1 h2)
 refine ⟨⟨fun j => ?_,fun a b k ha hb => ?_⟩,fun k hf => ?_,hk.mono fun k hk => ⟨i,hk⟩,hmb⟩
 ·by_cases hj : j = i
  ·subst hj;exact hc
  ·exact hsc j hj ((h.c j).kept hk (fun k hp => hap j k hj hp))
 ·by_cases h1 : a = i
  ·by_cases h2 : b = i
   ·rw [h1,h2]
   ·subst h1
    rw [hsp b h2] at hb
    rcases hg k ha with y | y
    ·exact h.ap a b k y hb
    ·have := (h.c b).lt hb;omega
  ·by_cases h2 : b = i
   ·subst h2
    rw [hsp a h1] at ha
    rcases hg k hb with y | y
    ·exact h.ap a b k ha y
    ·have := (h.c a).lt ha;omega
   ·rw [hsp a h1] at ha
    rw [hsp b h2] at hb
    exact h.ap a b k ha hb
 ·obtain ⟨j,hj⟩ := hf
  by_cases h1 : j = i
  ·subst h1
   rcases hg k hj with y | y
   ·exact .inl ⟨j,y⟩
   ·exact .inr y
  ·rw [hsp j h1] at hj
   exact .inl ⟨j,hj⟩
theorem Step.upd2 {ws w w' : World} {X0 X X' : MX} {M0 M M' : MR} (h : Step ws X0 M0 w X M) (S : Nat -> Prop) (hk : Kept (fun k => ∃ i,S i /\ parts X M i k) w w') (hsp : ∀ j,¬ S j -> parts X' M' j = parts X M j) (hsc : ∀ j,¬ S j -> Comp X M w' j -> Comp X' M' w' j)
  (hc : ∀ i,S i -> Comp X' M' w' i) (hg : ∀ i k,S i -> parts X' M' i k -> parts X M i k \/ (¬ foot X M k /\ ws.heap.size <= k)) (hfr : ∀ i j k,S i -> S j -> parts X' M' i k -> parts X' M' j k -> ¬ foot X M k -> i = j) (hmb : X'.fix = X.fix) : Step ws X0 M0 w' X' M' := by
 have ha := h.at'
 refine ⟨⟨fun j => ?_,fun a b k h1 h2 => ?_⟩,fun k hf => ?_,?_,hmb.trans h.fx⟩
 ·by_cases hj : S j
  ·exact hc j hj
  ·refine hsc j hj ((ha.c j).kept hk (fun k hp => ?_))
   rintro ⟨i,hi,hp2⟩
   obtain rfl := ha.ap i j k hp2 hp
   exact hj hi
 ·by_cases s1 : S a
  ·by_cases s2 : S b
   ·rcases hg a k s1 h1 with y | ⟨y,_⟩
    ·rcases hg b k s2 h2 with z | ⟨z,_⟩
     ·exact ha.ap a b k y z
     ·exact absurd ⟨a,y⟩ z
    ·exact hfr a b k s1 s2 h1 h2 y
   ·rw [hsp b s2] at h2
    rcases hg a k s1 h1 with y | ⟨y,_⟩
    ·exact ha.ap a b k y h2
    ·exact absurd ⟨b,h2⟩ y
  ·rw [hsp a s1] at h1
   by_cases s2 : S b
   ·rcases hg b k s2 h2 with z | ⟨z,_⟩
    ·exact ha.ap a b k h1 z
    ·exact absurd ⟨a,h1⟩ z
   ·rw [hsp b s2] at h2
    exact ha.ap a b k h1 h2
 ·obtain ⟨j,hj⟩ := hf
  by_cases s1 : S j
  ·rcases hg j k s1 hj with y | ⟨_,y⟩
   ·exact h.g k ⟨j,y⟩
   ·exact .inr y
  ·rw [hsp j s1] at hj
   exact h.g k ⟨j,hj⟩
 ·exact h.k.trans hk (fun k hp => by obtain ⟨i,_,hp⟩ := hp;exact h.g k ⟨i,hp⟩)
section
variable {ws w w' : World} {X X0 : MX} {M M0 : MR}
theorem Step.clearOut (h : Step ws X0 M0 w X M) : Step ws X0 M0 (w.setCell ⟨X.mb,11,none⟩ (.slice none 0 0)) { X with oA := none,oc := 0 } { M with out := [] } := by
 have hk : Kept (fun k => k = X.mb) w (w.setCell ⟨X.mb,11,none⟩ (.slice none 0 0)) := (Kept.refl _ w).put (.inl rfl)
 refine h.upd2 (fun i => i = 0 \/ i = 10) (hk.mono fun k hk => ⟨0,.inl rfl,hk⟩) (fun j hj => ?_) (fun j hj hc => ?_) (fun i hi => ?_) (fun i k hi hp => ?_) (fun i j k hi hj h1 h2 hf => ?_) rfl
 ·rcases j with _ | _ | _ | _ | _ | _ | _ | _ | _ | _ | _ | j <;> first | rfl | exact absurd (Or.inl rfl) hj | exact absurd (Or.inr rfl) hj
 ·rcases j with _ | _ | _ | _ | _ | _ | _ | _ | _ | _ | _ | j <;> first | exact hc | exact absurd (Or.inl rfl) hj | exact absurd (Or.inr rfl) hj
 ·rcases hi with rfl | rfl
  ·exact Has.put_of (h.at'.c 0) rfl
  ·exact ⟨rfl,.inl ⟨rfl,rfl⟩⟩
 ·rcases hi with rfl | rfl
  ·exact .inl hp
  ·simp [parts,Value.ownBlock] at hp
 ·rcases hi with rfl | rfl <;> rcases hj with rfl | rfl
  ·rfl
  ·simp [parts,Value.ownBlock] at h2
  ·simp [parts,Value.ownBlock] at h1
  ·rfl
end
section
variable {w w' : World} {X : MX} {M : MR}
theorem MAt.setSt (h : MAt w X M) {FS' : Nat -> Prop} {s' : StR} (hst : StAt w' X.sb FS' s') (hg : Grows w X.FS FS') (hk : Kept X.FS w w') : Step w X M w' { X with FS := FS' } { M with st := s' } :=
 h.upd 2 hk (fun j hj => by rcases j with _ | _ | _ | _ | _ | _ | _ | _ | _ | _ | _ | j <;> first | rfl | exact absurd rfl hj)
  (fun j hj hc => by rcases j with _ | _ | _ | _ | _ | _ | _ | _ | _ | _ | _ | j <;> first | exact hc | exact absurd rfl hj) hst (fun k hk => hg k hk) rfl
end
end Mas
end Go.Proofs.YtgffjliedjhbaaaGreat

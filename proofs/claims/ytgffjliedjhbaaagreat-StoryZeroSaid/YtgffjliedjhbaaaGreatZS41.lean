/- Part 42 of what the proof needs. -/
import Derived.Test.YtgffjliedjhbaaaGreatZS03
import Derived.Test.YtgffjliedjhbaaaGreatZS11
import Derived.Test.YtgffjliedjhbaaaGreatZS40
import Derived.Laws.IdiomCopy
set_option linter.unusedSimpArgs false
set_option linter.unusedVariables false
set_option maxHeartbeats 32000000
set_option maxRecDepth 100000
namespace Go.Proofs.YtgffjliedjhbaaaGreat
open Go.RowKit
set_option maxRecDepth 100000
namespace Pt
open Disk Fr Vn Ops Wl
def Hd : St -> Prop
 | [] => False
 | [f] => f.ts ≠ []
 | _ :: g :: R => Hd (g :: R)
theorem Hd.cons {f : FileT} {R : St} (h : Hd R) : Hd (f :: R) := by
 cases R with
 | nil => exact h.elim
 | cons g R => exact h
theorem hd_app {R : St} (h : R = [] \/ Hd R) (t : List UInt8) : Hd (app R t) := by
 cases R with
 | nil => show ([t] : List (List UInt8)) ≠ [];simp
 | cons f R =>
  have h : Hd (f :: R) := by rcases h with h | h;cases h;exact h
  by_cases hf : full f
  ·rw [app_full hf];exact h.cons
  ·rw [app_not hf]
   cases R with
   | nil => show f.ts ++ [t] ≠ [];simp
   | cons g R => exact h
theorem hd_cur : ∀ {T : List (List UInt8)} {R : St},Hd R -> Hd (cur R T)
 | [],_,h => h
 | t :: T,R,h => by rw [cur_cons];exact hd_cur (hd_app (.inr h) t)
theorem hd_new (t : List UInt8) (T : List (List UInt8)) : Hd (cur [] (t :: T)) := by rw [cur_cons];exact hd_cur (hd_app (.inl rfl) t)
theorem Hd.texts : ∀ {R : St},Hd R -> Wl.texts R ≠ []
 | [],h => h.elim
 | [f],h => by
  have h2 : f.ts ≠ [] := h
  show [] ++ f.ts ≠ []
  simpa using h2
 | f :: g :: R,h => by
  have := Hd.texts (R := g :: R) h
  show Wl.texts (g :: R) ++ f.ts ≠ []
  simp [this]
section
variable {first : Int} {R : St} {m : Disk.Safe} {k : Nat} {l : List ByteArray}
theorem Hd.len {R : St} (h : Hd R) : 0 < R.length := by
 cases R with
 | nil => exact h.elim
 | cons f R => simp
end
end Pt
namespace Pt
open Disk Fr Vn Ops Wl
def total (fs : List FileT) : Nat := (fs.map fun f => (byF f).length).sum
structure Whole (fs : List FileT) : Prop where
 q : ∀ f ∈ fs,f.q = []
 ts : ∀ f ∈ fs,f.ts ≠ []
 ok : ∀ f ∈ fs,OkF f
end Pt
namespace Pt
open Disk Fr Vn Ops Wl
structure PAct where
 k : Int
 s : ByteArray
 A : Option Addr
 c : Nat
 l : List ByteArray
 n : Int
instance : Inhabited PAct := ⟨⟨0,⟨#[]⟩,none,0,[],0⟩⟩
end Pt
section
open Go.WideShapes Go.ChangeShapes
variable {H : Type} {enc : TypeId × Value -> H} {W : World} {v : Value} {d : DataW H} {ps : List MemPlace} {r : Reach} {b0 : Nat}
end
namespace Pt
open Disk Fr Vn Ops Wl
def szN (d : Nat -> Nat) : Nat -> Nat
 | 0 => 0
 | i + 1 => szN d i + d i
theorem szN_le {d : Nat -> Nat} {b : Nat} (h : ∀ i,d i <= b) : ∀ k,szN d k <= k * b
 | 0 => Nat.zero_le _
 | k + 1 => by have := szN_le h k;have := h k;show szN d k + d k <= _;rw [Nat.succ_mul];omega
section
variable {w : World} {B gp gw g n c : Nat} {F : Nat -> Prop} {m : Disk.Safe} {ps : List Disk.Pc} {ser boot first : Int} {R : St} {T : List (List UInt8)} {A : Option Addr} {l : List ByteArray}
theorem psize_any (h : PtAt w B gp gw g F n m ps ser boot first R T A c l) (hf : Fits n m ps) (hK : (cur R T).length <= 100000) (h2 : first <= 1073741824) :
  Calls Tryz.prog 91 #[.pointer (some ⟨gp,0,none⟩)] w fun e w' => e = .returned (.int .i64 (szN (fun j => (dataOf m ps (first + j)).size) (cur R T).length : Nat)) /\ Kept NoF w w' := by
 have hno := pnone_any h.p
 have hfi := files_any h.d hf.i64 hf.n (by have := hf.len;omega)
 have hif := h.low.isFile h.log
 have hf1 := h.f1
 have hsb : ∀ j : Nat,(dataOf m ps (first + j)).size <= 66000 := fun j => by rw [(h.log.file j).2,ofL_sz];exact bts_le (cur_ok h.log.ok h.log.T) j
 have hda := fun (x : Int) (hx : 0 <= x /\ x <= 2305843009213693952) (W : World) (hW : Kept NoF w W) => data_any (h.d.kept hW (fun _ _ z => z)) x (i64_small hx.1 (by omega)) (by have := hf.len;omega) (by have := hf.file x;have := hf.total;omega)
 obtain ⟨d,hd⟩ : ∃ d : Nat -> Nat,(fun j : Nat => (dataOf m ps (first + j)).size) = d := ⟨_,rfl⟩
 have hdj : ∀ j : Nat,(dataOf m ps (first + j)).size = d j := fun j => by rw [<- hd]
 have hdb : ∀ j,d j <= 66000 := fun j => by rw [<- hdj j];exact hsb j
 have hsz := szN_le hdb
 obtain ⟨K,hKe⟩ : ∃ K,(cur R T).length = K := ⟨_,rfl⟩
 rw [hKe] at hif hK ⊢
 rw [hd]
 have hp := h.p
 have c1 : w.cell? ⟨gp,1,none⟩ = some (.pointer (some ⟨g,0,none⟩)) := hp.cell 1
 have HNO := hZ0 hno;have HFI := hZ0 hfi;have HIF := hZ0 hif;have HDA := hZ0 hda;have HDJ := hZ0 hdj;have HDB := hZ0 hdb;have HSZ := hZ0 hsz;have HP := hZ0 hp
 clear hno hfi hif hda hdj hdb hsz h hf hsb hd hp hKe
 go_enter Tryz.func91,Tryz.ntmps91
 go_wp2_with fail
 refine HNO.out.mono ?_
 rintro e w' ⟨rfl,rfl⟩
 go_wp2_with fail
 refine HFI.out.mono ?_
 rintro e w1 ⟨fl,A1,c1',rfl,hfa,hown,-,hk1⟩
 have hfl := files_nums hfa HIF.out (by omega) (by omega)
 have hlen : fl.length = K := by rw [hfl];simp [nums]
 have hsrc := Src.of_own hown
 rw [hlen] at hsrc ⊢
 have hget : ∀ i : Nat,i < K -> fl[i]? = some (first + i) := by
  intro i hi
  rw [hfl]
  unfold nums
  rw [List.getElem?_map,List.getElem?_range hi]
  rfl
 have HSRC := hZ0 hsrc;have HGET := hZ0 hget;have HK1 := hZ0 hk1
 clear hfa hown hk1 hfl hlen hsrc hget c1
 go_wp2_with fail
 go_loopw [3,14] (fun v3 v14 wr => ∃ i : Nat,i <= K /\ v14 = .int .i64 i /\ v3 = .int .i64 (szN d i : Nat) /\ Kept NoF w1 wr) (fun _ v14 _ => K - (intOf v14).toNat)
 case atStart => exact ⟨0,Nat.zero_le _,rfl,rfl,Kept.refl _ _⟩
 case round =>
  obtain ⟨i,hi,rfl,rfl,hk⟩ := hrel
  by_cases hil : i < K
  ·have hx := HGET.out i hil
   obtain ⟨ad,rfl,-,e0⟩ := SlI.ints_cells (HSRC.out.kept hk (fun _ _ z => z)) (by omega) i _ hx
   obtain ⟨x,hxe⟩ : ∃ x,first + (i : Int) = x := ⟨_,rfl⟩
   rw [hxe] at e0 hx
   have hpr := (HP.out.kept HK1.out (fun z => z)).kept hk (fun z => z)
   have d1 : wr.cell? ⟨gp,1,none⟩ = some (.pointer (some ⟨g,0,none⟩)) := hpr.cell 1
   have d2 : wr.cell? ⟨gp,2,none⟩ = some (.int .i64 first) := hpr.cell 2
   have q1 : first <= x := by omega
   have hda := HDA.out x ⟨by omega,by omega⟩ wr (HK1.out.then hk)
   obtain ⟨D,hD⟩ : ∃ D,dataOf m ps x = D := ⟨_,rfl⟩
   have hDs : D.size = d i := by rw [<- hD,<- hxe];exact HDJ.out i
   rw [hD] at hda
   have hb1 := HSZ.out i
   have hb2 := HDB.out i
   have hst : szN d (i + 1) = szN d i + D.size := by rw [hDs];rfl
   have hq : szN d i <= 6600000000 := by omega
   have hq2 : D.size <= 66000 := by omega
   obtain ⟨z,hz⟩ : ∃ z,szN d i = z := ⟨_,rfl⟩
   rw [hz] at hst hq ⊢
   have HD := hZ0 hda;have HST := hZ0 hst;have HK := hZ0 hk
   clear hk hx hpr hda hD hDs hb1 hb2 hst hz hxe
   go_wp2_with fail
   refine HD.out.mono ?_
   rintro e w3 ⟨rfl,hk3⟩
   have HK3 := hZ0 (HK.out.then hk3)
   clear hk3
   go_wp2
   go_roundw
   case rel => exact ⟨i + 1,by omega,by go_num,by rw [HST.out];go_num,HK3.out⟩
   case measure => simp [intOf];omega
  ·obtain rfl : i = K := by omega
   have HK := hZ0 (HK1.out.then hk)
   clear hk
   go_wp2
   go_ret
   exact ⟨rfl,HK.out⟩
end
end Pt
namespace Pt
open Disk Fr Vn Ops Wl
section
variable {w : World} {B gp gw g n c : Nat} {F : Nat -> Prop} {m : Disk.Safe} {ps : List Disk.Pc} {ser boot first : Int} {R : St} {T : List (List UInt8)} {A : Option Addr} {l : List ByteArray}
def PAppPost2 (w : World) (B gp gw g : Nat) (F : Nat -> Prop) (n : Nat) (m : Disk.Safe) (ps : List Disk.Pc) (ser boot first : Int) (R : St) (T : List (List UInt8)) (A : Option Addr) (c : Nat) (l : List ByteArray) (s : ByteArray) (e : Ending) (w' : World) : Prop :=
 e = .returned (.int .i64 0) /\ ∃ F' A' c',PtAt w' B gp gw g F' n m (ps ++ [(first + lastOf (cur R T),ofL (frameL (84 :: bl s)))]) ser boot first R (T ++ [84 :: bl s]) A' c' (l ++ [s]) /\ Kept (PF gp gw F A l.length c) w w' /\ (∀ k,F' k -> F k \/ w.heap.size <= k) /\ (∀ k,(Value.slice A' (l ++ [s]).length c').ownBlock = some k -> (Value.slice A l.length c).ownBlock = some k \/ w.heap.size <= k)
theorem papp2_any (h : PtAt w B gp gw g F n m ps ser boot first R T A c l) (hf : Fits n m ps) (hB : B <= w.heap.size) (h2 : first + lastOf (cur R T) <= 1073741824) (hl : l.length <= 1000000) (s : ByteArray) (hs : s.size < 65536) :
  Calls Tryz.prog 89 #[.pointer (some ⟨gp,0,none⟩),.string s] w (PAppPost2 w B gp gw g F n m ps ser boot first R T A c l s) := by
 have hno := pnone_any h.p
 have hlo := fun W => long_any W s false (decide_eq_false (by omega))
 have hap := lappend_any h.d h.wl h.log hf h.f1 h2 (ofL (84 :: bl s)) (by rw [ofL_sz];simp [size_bl];omega)
 rw [bl_ofL] at hap
 have c0 : w.cell? ⟨gp,0,none⟩ = some (.pointer (some ⟨gw,0,none⟩)) := h.p.cell 0
 have q1 : ¬ 9223372036854775807 < (⟨#[84]⟩ : ByteArray).size + s.size := by show ¬ _ < 1 + _;omega
 have H := hZ0 h;have HNO := hZ0 hno;have HLO := hZ0 hlo;have HAP := hZ0 hap;have HF := hZ0 hf
 have hM : l.length + 1 <= maxLen := by unfold maxLen;omega
 have hY : (l.length + 1) * 16 <= 140737488355328 := by omega
 have HMX := hZ0 hM;have HY := hZ0 hY
 clear h hno hlo hap hf hM hY
 go_enter Tryz.func89,Tryz.ntmps89
 go_wp2_with fail
 refine HNO.out.mono ?_
 rintro e w' ⟨rfl,rfl⟩
 go_wp2_with fail
 refine (HLO.out _).mono ?_
 rintro e w' ⟨rfl,rfl⟩
 go_wp2_with fail
 rw [cat84]
 refine HAP.out.mono ?_
 rintro e w3 ⟨rfl,F3,hd3,hG3,hw3,hk3⟩
 have hp3 := H.out.p.kept hk3 (fun hh => by rcases hh with hh | hh;exact H.out.gp_not.1 hh;exact H.out.gp_not.2.2 hh)
 have hr3 := own_kept H.out.row.1 hk3 (fun k hk hh => by rcases hh with hh | hh;exact (H.out.row_not hk).1 hh;exact (H.out.row_not hk).2.2 hh)
 have d3 : w3.cell? ⟨gp,3,none⟩ = some (.slice A l.length c) := hp3.cell 3
 have f3 := hp3.frozen 3
 have hgl := hp3.lt
 have HD3 := hZ0 hd3;have HG3 := hZ0 hG3;have HW3 := hZ0 hw3;have HK3 := hZ0 hk3;have HP3 := hZ0 hp3;have HR3 := hZ0 hr3
 have HOW := hZ0 (own_kept hr3 (F := NoF) ((Kept.refl _ w3).alloc (.cells #[.string s] 9)) (fun _ _ z => z))
 clear hd3 hG3 hw3 hk3 hp3 hr3 q1 c0
 go_wp2_with (at_builtin;refine list_append_src elemStr (.tmp 26) (.tmp 28) rfl rfl (Value.slice A l.length c) rfl HOW.out 1 rfl (Src.of_has (m := 1) (Has.new w3 9 #[.string s]) rfl) (one_str _) HMX.out HY.out ?_;intro A9 c9 w9 ho9 hg9 ha9;have hkr : Kept (fun k => (Value.slice A l.length c).ownBlock = some k) w3 w9 := Kept.grown ((Kept.refl _ w3).alloc _) hg9 (fun k hk => .inl hk);have hp9 := HP3.out.kept hkr (fun hk => (H.out.row_not hk).2.1 rfl);have d9 := hp9.cell 3;have f9 := hp9.frozen 3;have HO9 := hZ0 ho9;have HA9 := hZ0 ha9;have HKR := hZ0 hkr;have HP9 := hZ0 hp9;clear ho9 hg9 ha9 hkr hp9)
 go_ret
 have hkS : Kept (fun k => k = gp) w9 (w9.setCell ⟨gp,3,none⟩ (.slice A9 (l.length + 1) c9)) := (Kept.refl _ w9).put (.inl rfl)
 have hlen : (l ++ [s]).length = l.length + 1 := by simp
 have hF3 : ∀ k,F3 k -> ∀ t cs,Has w3 k t cs -> t ≠ 92 -> t ≠ 169 -> False := fun k hk t cs hh e1 e2 => DiskAt.not HD3.out hh e1 e2 hk
 have hdr : ∀ k,F3 k -> ¬ (Value.slice A l.length c).ownBlock = some k := fun k hk hb => by
  obtain ⟨cs,hh⟩ := own_has HR3.out hb
  exact hF3 k hk _ _ hh (by decide) (by decide)
 have hd9 := HD3.out.kept HKR.out hdr
 have hp9' := HP9.out.put 3 (.slice A9 (l.length + 1) c9)
 have hw9 := HW3.out.kept HKR.out (fun hk => by
  obtain ⟨cs,hh⟩ := own_has HR3.out hk
  exact Has.ne hh HW3.out (by decide) rfl)
 refine ⟨rfl,F3,A9,c9,⟨hd9.kept hkS (fun k hk e => hF3 k hk _ _ (e ▸ HP3.out) (by decide) (by decide)),?_,hw9.kept hkS (fun e => H.out.gp_not.2.2 e.symm),⟨?_,?_⟩,H.out.log.append (by simp [size_bl];omega),H.out.low.append (by omega),H.out.f1,?_,?_⟩,?_,fun k hk => HG3.out k hk,?_⟩
 ·rw [hlen];exact hp9'
 ·rw [hlen,List.map_append]
  exact own_kept HO9.out hkS (fun k hk e => by
   obtain ⟨cs,hh⟩ := own_has HO9.out hk
   exact Has.ne hh (e ▸ HP9.out) (by decide) rfl)
 ·intro k hk
  rw [hlen] at hk
  rcases HA9.out with e | e
  ·exact H.out.row.2 k (e.symm.trans hk)
  ·have h9 := e.symm.trans hk
   injection h9 with h9
   have := HK3.out.size
   simp at h9
   omega
 ·obtain ⟨k,h3,h4⟩ := H.out.tx
  exact ⟨k,by rw [ptx_snoc,<- h3,List.append_assoc],h4⟩
 ·intro x hx
  rcases List.mem_append.1 hx with hx | hx
  ·exact H.out.hs x hx
  ·simp at hx;subst hx;exact hs
 ·refine (((HK3.out.mono (fun k hk => ?_)).then (HKR.out.mono (fun k hk => ?_)))).then (hkS.mono (fun k hk => ?_))
  ·rcases hk with hk | hk
   ·exact .inl hk
   ·exact .inr (.inr (.inl hk))
  ·exact .inr (.inr (.inr hk))
  ·exact .inr (.inl hk)
 ·intro k hk
  rw [hlen] at hk
  rcases HA9.out with e | e
  ·exact .inl (e.symm.trans hk)
  ·have h9 := e.symm.trans hk
   injection h9 with h9
   have := HK3.out.size
   simp at h9
   exact .inr (by omega)
def DSyncPost (w : World) (B gp gw g : Nat) (F : Nat -> Prop) (n : Nat) (m : Disk.Safe) (ps : List Disk.Pc) (ser boot first : Int) (R : St) (T : List (List UInt8)) (A : Option Addr) (c : Nat) (l : List ByteArray) (e : Ending) (w' : World) : Prop :=
 (∃ k : Int,e = .returned (.int .i64 k)) /\ PtAt w' B gp gw g F (n + ps.length) (syncM m ps) [] ser boot first (cur R T) [] A c l /\ Kept F w w'
theorem dsync_any (h : PtAt w B gp gw g F n m ps ser boot first R T A c l) (hf : Fits n m ps) : Calls Tryz.prog 36 #[.pointer (some ⟨g,0,none⟩)] w (DSyncPost w B gp gw g F n m ps ser boot first R T A c l) := by
 have htt := hf.total
 refine (sync_any h.d hf.i64 (by have := hf.len;omega) (by have := hf.n;omega) 100000 hf.file (by omega)).mono ?_
 rintro e w' ⟨rfl,h1,h2⟩
 refine ⟨⟨_,rfl⟩,⟨h1,h.p.kept h2 h.gp_not.1,h.wl.kept h2 h.gp_not.2.1,⟨own_kept h.row.1 h2 (fun k hk => (h.row_not hk).1),h.row.2⟩,h.log.sync,h.low.sync,h.f1,?_,h.hs⟩,h2⟩
 obtain ⟨k,h3,h4⟩ := h.tx
 refine ⟨k,by rw [cur_texts,List.append_nil,h3],?_⟩
 rw [cur_texts,List.length_append]
 omega
end
end Pt
namespace Mst
def noteAt (w : World) (a : Addr) : Array Value := ((List.range 18).map fun j => (w.cell? (a.add j)).getD undef).toArray
def NoteIn (w : World) (a : Addr) : Prop := ∀ j,j < 18 -> (w.cell? (a.add j)).isSome = true
def loadNote (a : Addr) : Sem Value := loadVar 116 a
theorem loadVar_note (a : Addr) : loadVar 116 a = loadNote a := rfl
theorem run_loadNote (w : World) (a : Addr) (h : NoteIn w a) : (loadNote a).run Tryz.prog w = .ok (.agg (noteAt w a)) w := by
 have hl := run_loadCells (P := Tryz.prog) w a 18 (fun j => (w.cell? (a.add j)).getD undef) (fun j hj => by
  obtain ⟨v,hv⟩ := Option.isSome_iff_exists.1 (h j hj)
  rw [hv];rfl)
 have hi : (Tryz.prog.info? 116).map (·.size) = some 18 := by kernel_rfl
 have hagg : ∀ W,(isAgg 116).run Tryz.prog W = .ok true W := fun W => by
  unfold isAgg
  rw [Sem.run_bind,run_underlying Tryz.underlying116 W]
  rfl
 cases hq : Tryz.prog.info? 116 with
 | none => simp [hq] at hi
 | some i =>
  have hs : i.size = 18 := by simpa [hq] using hi
  unfold loadNote
  simp [loadVar,Sem.run_bind,hagg,sizeOf,typeInfo,hq,hs,hl,noteAt]
theorem noteIn_of {w : World} {a : Addr} {cs : List Value} (hn : cs.length = 18) (h : ∀ j u,cs[j]? = some u -> w.cell? (a.add j) = some u) : NoteIn w a /\ noteAt w a = cs.toArray := by
 refine ⟨fun j hj => ?_,?_⟩
 ·rw [h j _ (List.getElem?_eq_getElem (by omega))];rfl
 ·unfold noteAt
  congr 1
  apply List.ext_getElem?
  intro j
  rcases Nat.lt_or_ge j 18 with hj | hj
  ·rw [List.getElem?_map,List.getElem?_range hj,List.getElem?_eq_getElem (by omega : j < cs.length)]
   simp [h j _ (List.getElem?_eq_getElem (by omega : j < cs.length))]
  ·rw [List.getElem?_eq_none (by simpa using hj),List.getElem?_eq_none (by omega)]
theorem noteIn_has {w : World} {g : Nat} {cs : List Value} (hn : cs.length = 18) (h : Has w g 116 cs.toArray) : NoteIn w ⟨g,0,none⟩ /\ noteAt w ⟨g,0,none⟩ = cs.toArray := by
 refine noteIn_of hn fun j u hu => ?_
 have e1 : ((⟨g,0,none⟩ : Addr).add j) = ⟨g,j,none⟩ := by unfold Addr.add;split <;> simp_all
 rw [e1,h.cell]
 simpa using hu
end Mst
end Go.Proofs.YtgffjliedjhbaaaGreat

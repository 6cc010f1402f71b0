/- Part 21 of what the proof needs. -/
import Derived.Test.YtgffjliedjhbaaaGreatZS00
import Derived.Test.YtgffjliedjhbaaaGreatZS19
import Derived.Test.YtgffjliedjhbaaaGreatChecked
import Derived.Shelf.SlIterI.Nil
import Derived.Shelf.SortM.Plain
import Derived.Shelf.SortM.SortNone
import Derived.Ground.GgzProg
import Derived.Ground.SlgmProg
import Derived.Maps.RangeWalk
import Derived.Lib.SlKeysI
set_option linter.unusedSimpArgs false
set_option linter.unusedVariables false
set_option maxHeartbeats 32000000
set_option maxRecDepth 100000
namespace Go.Proofs.YtgffjliedjhbaaaGreat
open Go.Shelf Go.Sort Go.RowKit Go.Maps Go.Proofs
set_option maxRecDepth 100000
namespace It
def keysA_ren : Go.Shelf.Ren := ⟨fun | 7 => 103 | 10 => 171 | n => n,fun | 23 => 178 | 26 => 3 | 3 => 4 | 28 => 204 | 0 => 0 | 27 => 203 | 33 => 62 | 4 => 4 | n => n,fun | n => n⟩
theorem keysA : Go.Proofs.SlLaysZI.n7 Tryz.prog keysA_ren := {
 mixed := by kernel_rfl
 f7 := ⟨Tryz.f103.name,by decide,Tryz.func103.trans (congrArg some (by kernel_rfl))⟩
 f10 := ⟨Tryz.f171.name,by decide,Tryz.func171.trans (congrArg some (by kernel_rfl))⟩
 t0 := Tryz.underlying0
 a0 := Tryz.isAgg0
 z0 := Tryz.sizeOf0
 v0 := Tryz.zeroValue0
 t4 := Tryz.underlying4
 a4 := Tryz.isAgg4
 z4 := Tryz.sizeOf4
 v4 := Tryz.zeroValue4
 t23 := Tryz.underlying178
 a23 := Tryz.isAgg178
 z23 := Tryz.sizeOf178
 v23 := Tryz.zeroValue178
 t26 := Tryz.underlying3
 a26 := Tryz.isAgg3
 z26 := Tryz.sizeOf3
 v26 := Tryz.zeroValue3
 t27 := Tryz.underlying203
 a27 := Tryz.isAgg203
 z27 := Tryz.sizeOf203
 v27 := Tryz.zeroValue203
 t28 := Tryz.underlying204
 a28 := Tryz.isAgg204
 z28 := Tryz.sizeOf204
 v28 := Tryz.zeroValue204
 t33 := Tryz.underlying62
 a33 := Tryz.isAgg62
 z33 := Tryz.sizeOf62
 v33 := Tryz.zeroValue62 }
def sortedA_ren : Go.Shelf.Ren := ⟨fun | 6 => 102 | 8 => 170 | 9 => 90 | 11 => 233 | 13 => 160 | 12 => 159 | 23 => 219 | 24 => 220 | 14 => 210 | 15 => 211 | 16 => 212 | 17 => 213 | 18 => 214 | 19 => 215 | 20 => 216 | 21 => 217 | 22 => 218 | 25 => 245 | 26 => 246 | 27 => 247 | 28 => 248 | 29 => 249 | 30 => 250 | 31 => 260 | n => n,fun | 26 => 3 | 28 => 204 | 24 => 110 | 0 => 0 | 3 => 3 | 37 => 284 | 48 => 345 | 50 => 30 | 4 => 4 | 40 => 338 | 39 => 337 | 45 => 206 | 5 => 5 | 9 => 9 | 51 => 372 | 55 => 375 | 57 => 383 | 58 => 251 | 33 => 62 | n => n,fun | n => n⟩
theorem sortedA : Go.Proofs.SlLaysZI.n6 Tryz.prog sortedA_ren := {
 mixed := by kernel_rfl
 f6 := ⟨Tryz.f102.name,by decide,Tryz.func102.trans (congrArg some (by kernel_rfl))⟩
 f8 := ⟨Tryz.f170.name,by decide,Tryz.func170.trans (congrArg some (by kernel_rfl))⟩
 f11 := ⟨Tryz.f233.name,by decide,Tryz.func233.trans (congrArg some (by kernel_rfl))⟩
 t0 := Tryz.underlying0
 a0 := Tryz.isAgg0
 z0 := Tryz.sizeOf0
 v0 := Tryz.zeroValue0
 t24 := Tryz.underlying110
 a24 := Tryz.isAgg110
 z24 := Tryz.sizeOf110
 v24 := Tryz.zeroValue110
 t26 := Tryz.underlying3
 a26 := Tryz.isAgg3
 z26 := Tryz.sizeOf3
 v26 := Tryz.zeroValue3
 t28 := Tryz.underlying204
 a28 := Tryz.isAgg204
 z28 := Tryz.sizeOf204
 v28 := Tryz.zeroValue204
 i26 := by kernel_rfl }
def sortA_ren : Go.Shelf.Ren := ⟨fun | 5 => 90 | 8 => 160 | 7 => 159 | 19 => 219 | 20 => 220 | 10 => 210 | 11 => 211 | 12 => 212 | 13 => 213 | 14 => 214 | 15 => 215 | 16 => 216 | 17 => 217 | 18 => 218 | 30 => 245 | 31 => 246 | 32 => 247 | 33 => 248 | 34 => 249 | 35 => 250 | 40 => 260 | n => n,fun | 23 => 110 | 25 => 3 | 3 => 3 | 32 => 284 | 22 => 110 | 0 => 0 | 44 => 345 | 46 => 30 | 4 => 4 | 36 => 338 | 35 => 337 | 41 => 206 | 5 => 5 | 9 => 9 | 53 => 372 | 57 => 375 | 63 => 383 | 64 => 251 | n => n,fun | n => n⟩
theorem sortA : Go.Proofs.SlLaysM.n5 Tryz.prog sortA_ren := {
 mixed := by kernel_rfl
 f5 := ⟨Tryz.f90.name,by decide,Tryz.func90.trans (congrArg some (by kernel_rfl))⟩
 f7 := ⟨Tryz.f159.name,by decide,Tryz.func159.trans (congrArg some (by kernel_rfl))⟩
 f8 := Tryz.func160.trans (congrArg some (by kernel_rfl))
 f10 := ⟨Tryz.f210.name,by decide,Tryz.func210.trans (congrArg some (by kernel_rfl))⟩
 f11 := ⟨Tryz.f211.name,by decide,Tryz.func211.trans (congrArg some (by kernel_rfl))⟩
 f12 := ⟨Tryz.f212.name,by decide,Tryz.func212.trans (congrArg some (by kernel_rfl))⟩
 f13 := ⟨Tryz.f213.name,by decide,Tryz.func213.trans (congrArg some (by kernel_rfl))⟩
 f14 := ⟨Tryz.f214.name,by decide,Tryz.func214.trans (congrArg some (by kernel_rfl))⟩
 f15 := ⟨Tryz.f215.name,by decide,Tryz.func215.trans (congrArg some (by kernel_rfl))⟩
 f16 := ⟨Tryz.f216.name,by decide,Tryz.func216.trans (congrArg some (by kernel_rfl))⟩
 f17 := ⟨Tryz.f217.name,by decide,Tryz.func217.trans (congrArg some (by kernel_rfl))⟩
 f18 := ⟨Tryz.f218.name,by decide,Tryz.func218.trans (congrArg some (by kernel_rfl))⟩
 f19 := Tryz.func219.trans (congrArg some (by kernel_rfl))
 f20 := Tryz.func220.trans (congrArg some (by kernel_rfl))
 f30 := ⟨Tryz.f245.name,by decide,Tryz.func245.trans (congrArg some (by kernel_rfl))⟩
 f31 := Tryz.func246.trans (congrArg some (by kernel_rfl))
 f32 := Tryz.func247.trans (congrArg some (by kernel_rfl))
 f33 := ⟨Tryz.f248.name,by decide,Tryz.func248.trans (congrArg some (by kernel_rfl))⟩
 f34 := ⟨Tryz.f249.name,by decide,Tryz.func249.trans (congrArg some (by kernel_rfl))⟩
 f35 := ⟨Tryz.f250.name,by decide,Tryz.func250.trans (congrArg some (by kernel_rfl))⟩
 f40 := ⟨Tryz.f260.name,by decide,Tryz.func260.trans (congrArg some (by kernel_rfl))⟩
 t0 := Tryz.underlying0
 a0 := Tryz.isAgg0
 z0 := Tryz.sizeOf0
 v0 := Tryz.zeroValue0
 t3 := Tryz.underlying3
 a3 := Tryz.isAgg3
 z3 := Tryz.sizeOf3
 v3 := Tryz.zeroValue3
 t4 := Tryz.underlying4
 a4 := Tryz.isAgg4
 z4 := Tryz.sizeOf4
 v4 := Tryz.zeroValue4
 t5 := Tryz.underlying5
 a5 := Tryz.isAgg5
 z5 := Tryz.sizeOf5
 v5 := Tryz.zeroValue5
 t9 := Tryz.underlying9
 a9 := Tryz.isAgg9
 z9 := Tryz.sizeOf9
 v9 := Tryz.zeroValue9
 t22 := Tryz.underlying110
 a22 := Tryz.isAgg110
 z22 := Tryz.sizeOf110
 v22 := Tryz.zeroValue110
 t23 := Tryz.underlying110
 a23 := Tryz.isAgg110
 z23 := Tryz.sizeOf110
 v23 := Tryz.zeroValue110
 t25 := Tryz.underlying3
 a25 := Tryz.isAgg3
 z25 := Tryz.sizeOf3
 v25 := Tryz.zeroValue3
 t32 := Tryz.underlying284
 a32 := Tryz.isAgg284
 z32 := Tryz.sizeOf284
 v32 := Tryz.zeroValue284
 t35 := Tryz.underlying337
 a35 := Tryz.isAgg337
 z35 := Tryz.sizeOf337
 v35 := Tryz.zeroValue337
 t36 := Tryz.underlying338
 a36 := Tryz.isAgg338
 z36 := Tryz.sizeOf338
 v36 := Tryz.zeroValue338
 t41 := Tryz.underlying206
 a41 := Tryz.isAgg206
 z41 := Tryz.sizeOf206
 v41 := Tryz.zeroValue206
 t44 := Tryz.underlying345
 a44 := Tryz.isAgg345
 z44 := Tryz.sizeOf345
 v44 := Tryz.zeroValue345
 t46 := Tryz.underlying30
 a46 := Tryz.isAgg30
 z46 := Tryz.sizeOf30
 v46 := Tryz.zeroValue30
 t53 := Tryz.underlying372
 a53 := Tryz.isAgg372
 z53 := Tryz.sizeOf372
 v53 := Tryz.zeroValue372
 t57 := Tryz.underlying375
 a57 := Tryz.isAgg375
 z57 := Tryz.sizeOf375
 v57 := Tryz.zeroValue375
 t63 := Tryz.underlying383
 a63 := Tryz.isAgg383
 z63 := Tryz.sizeOf383
 v63 := Tryz.zeroValue383
 t64 := Tryz.underlying251
 a64 := Tryz.isAgg251
 z64 := Tryz.sizeOf251
 v64 := Tryz.zeroValue251 }
theorem sortsA (m : Nat) : AnyZI.SortsIn Tryz.prog sortedA_ren Fence.wide m :=
 ⟨fun blk off cap ss W hH hblk hsz => callsIn_wide.2 (AnyM.slices_Sort_int sortA blk off cap ss W hH hblk hsz),
  fun p cap W => callsIn_wide.2 (AnyM.slices_Sort_int_none sortA p cap W)⟩
theorem keys_any (mb : Option Nat) (W : World) : Calls Tryz.prog 103 #[.map mb] W fun e w' => e = .returned (.func (.func 171) #[] #[.pointer (some ⟨W.heap.size,0,none⟩)]) /\ w' = W.alloc (.cells #[.map mb] 178) :=
 (callsIn_wide (n := 5)).1 (AnyZI.keys_in keysA Fence.wide 5 trivial rfl mb W)
theorem sorted_any {H : Type} (b nn : Nat) (D0 : DataW H) (R : Value -> Option (DataW H × List MemPlace)) (w : World) (hown : w.ownsMap Tryz.prog 3 R b nn D0) (hmax : Maps.size D0 <= maxLen) (hbytes : Maps.size D0 * 8 <= 140737488355328) :
  Calls Tryz.prog 102 #[.func (.func 171) #[] #[.pointer (some ⟨w.heap.size,0,none⟩)]] (w.alloc (.cells #[.map (some b)] 178)) fun e w' => ∃ (v : Value) (ss : List Int),e = .returned v /\ ss.Perm (intKeys D0) /\
   w'.ownsRow (w.heap.size + 1) 3 1 v ss.length ((ss.mergeSort (fun x y => decide (x <= y))).map encZ) /\ Below (w.heap.size + 1) (w.alloc (.cells #[.map (some b)] 178)) w' := by
 have hbl := hown.lt
 have hseq : SeqGives Fence.wide 2 Tryz.prog 171 #[.pointer (some ⟨w.heap.size,0,none⟩)] encZ (fun ss => ss.Perm (intKeys D0)) (Maps.size D0) (w.alloc (.cells #[.map (some b)] 178)) :=
  AnyZI.keys_gives (ρ := keysA_ren) { keysA with } Fence.wide _ trivial rfl (by omega) w.heap.size b nn D0 _ (by simp) (by simp) (by
   obtain ⟨es,clock,hb,Ft,hs,hD⟩ := hown
   exact ⟨es,clock,(Below.heap_alloc _ _ b hbl).trans hb,Ft,hs,hD⟩)
 have cS := AnyZI.sorted_in sortedA Fence.wide 5 trivial trivial trivial trivial rfl (by omega) (sortsA _) (enters_of Tryz.func90 (by kernel_rfl) rfl) 171 #[.pointer (some ⟨w.heap.size,0,none⟩)] trivial (enters_of Tryz.func171 (by kernel_rfl) rfl) _ _ hmax hbytes _ hseq
 change CallsIn _ _ Tryz.prog 102 _ _ _ at cS
 refine ((callsIn_wide (n := 5)).1 cS).mono ?_
 rintro e w' ⟨v,ss,rfl,hS,hrow,hnil,hb⟩
 have hz : (w.alloc (.cells #[.map (some b)] 178)).heap.size = w.heap.size + 1 := by simp
 rw [hz] at hrow hb
 exact ⟨v,ss,rfl,hS,hrow,hb⟩
end It
end Go.Proofs.YtgffjliedjhbaaaGreat
namespace Go.Proofs.YtgffjliedjhbaaaGreat
open Go.RowKit Go.Maps
set_option maxRecDepth 100000
namespace Disk
def SeenZ (w : World) (b n : Nat) (s : Int -> Bool) : Prop :=
 ∃ D : DataW Unit,w.ownsMap Tryz.prog 3 (plainElem Tryz.prog 4) b n D /\ ∀ x,has D (.int .i64 x) = s x
theorem SeenZ.lt {w : World} {b n : Nat} {s : Int -> Bool} (h : SeenZ w b n s) : b < w.heap.size := by
 obtain ⟨D,h,_⟩ := h
 exact h.lt
theorem SeenZ.mono {w : World} {b n n' : Nat} {s : Int -> Bool} (h : SeenZ w b n s) (hn : n <= n') : SeenZ w b n' s := by
 obtain ⟨D,ho,hD⟩ := h
 exact ⟨D,ho.mono hn,hD⟩
theorem SeenZ.store {w : World} {b n : Nat} {s : Int -> Bool} (h : SeenZ w b n s) (hn : n < maxLen) {x : Int} (hx : I64 x) :
  ∃ w',(Instr.mapUpdate 178 (.map (some b)) (.int .i64 x) (.bool true)).run Tryz.prog w = .ok () w' /\ SeenZ w' b (n + 1) (fun y => decide (y = x) || s y) /\ w.grownBy w' (some b) := by
 obtain ⟨D,ho,hD⟩ := h
 obtain ⟨w',hrun,ho',hg⟩ := ho.update intKeyed Tryz.underlying178 hn (intKey hx) (plainElem_bool Tryz.underlying4 true)
 refine ⟨w',hrun,⟨_,ho',?_⟩,hg⟩
 intro y
 have hm : IsMap D := ho.isMap
 have hl : WideAt.IsKeyLit (.int .i64 x) := by trivial
 by_cases e : y = x
 ·subst e
  rw [has_put_same hm hl]
  simp
 ·have hne : (Lit.int .i64 y) ≠ .int .i64 x := fun h => e (by injection h)
  rw [has_put_other hne,hD y]
  simp [e]
theorem SeenZ.kept {F : Nat -> Prop} {w w' : World} {b n : Nat} {s : Int -> Bool} (h : SeenZ w b n s) (hk : Kept F w w') (hf : ¬ F b) : SeenZ w' b n s := by
 obtain ⟨D,ho,hD⟩ := h
 have hlt := ho.lt
 obtain ⟨es,clock,hb,hF,hs,e⟩ := ho
 exact ⟨D,⟨es,clock,(hk.block b hlt hf).trans hb,hF,hs,e⟩,hD⟩
theorem SeenZ.made (w : World) : SeenZ (w.alloc (.map #[] 0)) w.heap.size 0 (fun _ => false) :=
 ⟨_,World.ownsMap_made w _ _ _,fun x => rfl⟩
def isFile (m : Safe) (ps : List Pc) (x : Int) : Bool := (m x).isSome || ps.any fun p => decide (p.1 = x)
theorem keysZ {w : World} {b n : Nat} {R : Value -> Option (DataW Unit × List MemPlace)} {D : DataW Unit} (hown : w.ownsMap Tryz.prog 3 R b n D) : (intKeys D).Nodup /\ ∀ x,x ∈ intKeys D ↔ has D (.int .i64 x) = true := by
 obtain ⟨es,hD,hpw,_⟩ := hown.entries intKeyed
 obtain ⟨es',hD',hko⟩ := hown.keysOf
 obtain rfl : es = es' := by rw [hD] at hD';simpa using hD'
 subst hD
 have hk : ∀ p ∈ es,∃ x,p.1 = .int .i64 x := fun p hp => by obtain ⟨v,hv⟩ := hko p hp;obtain ⟨x,_,hx,_⟩ := Maps.keyOf_i64 Tryz.underlying3 hv;exact ⟨x,hx⟩
 refine ⟨?_,fun x => ?_⟩
 ·show (es.map fun p => Go.intOf p.1).Nodup
  refine List.pairwise_map.2 (hpw.imp_of_mem fun {p q} hp' hq' hne e => hne ?_)
  obtain ⟨a,ha⟩ := hk p hp'
  obtain ⟨b,hb⟩ := hk q hq'
  rw [ha,hb] at e ⊢
  exact congrArg _ e
 ·rw [has_eq,List.any_eq_true]
  show x ∈ es.map (fun p => Go.intOf p.1) ↔ _
  rw [List.mem_map]
  constructor
  ·rintro ⟨p,hp',rfl⟩
   obtain ⟨a,ha⟩ := hk p hp'
   exact ⟨p,hp',by rw [ha];simp [Lit.sameKey,Go.intOf]⟩
  ·rintro ⟨p,hp',hs⟩
   obtain ⟨a,ha⟩ := hk p hp'
   rw [ha] at hs
   exact ⟨p,hp',by rw [ha];simpa [Lit.sameKey,Go.intOf,eq_comm] using hs⟩
structure FilesAre (m : Safe) (ps : List Pc) (fl : List Int) : Prop where
 rises : fl.Pairwise (· < ·)
 mem : ∀ x,x ∈ fl ↔ I64 x /\ isFile m ps x = true
def FilesPost (w : World) (m : Safe) (ps : List Pc) (e : Ending) (w' : World) : Prop :=
 ∃ fl A c,e = .returned (.slice A fl.length c) /\ FilesAre m ps fl /\ w'.ownsRow 0 3 1 (.slice A fl.length c) fl.length (fl.map (Value.int .i64)) /\ (∀ k,(Value.slice A fl.length c).ownBlock = some k -> w.heap.size <= k) /\ Kept NoF w w'
variable {F : Nat -> Prop} {w : World} {g n : Nat} {m : Safe} {ps : List Pc} {ser boot : Int}
theorem files_any (h : DiskAt w g F n m ps ser boot) (hpi : ∀ p ∈ ps,I64 p.1) (hn : n <= 100000) (hlen : ps.length <= 100000) :
  Calls Tryz.prog 61 #[.pointer (some ⟨g,0,none⟩)] w (FilesPost w m ps) := by
 have hno := none_any h
 have HN := hZ0 hno;clear hno
 obtain ⟨mb,A,c,hF,hg,hm,ho⟩ := h
 obtain ⟨D0,hown0,hD0⟩ := hm
 have HD0 := hZ0 hD0;clear hD0
 have c0 : w.cell? ⟨g,0,none⟩ = some (.map (some mb)) := hg.cell 0
 have hgl := hg.lt
 have hown1 := hown0.alloc (.map #[] 0)
 have hml := hown0.lt
 have HG := hZ0 hg;clear hg
 have HS := hZ0 (Src.of_own ho);clear ho
 have HPI := hZ0 hpi;clear hpi
 have hmk := @run_makeMap Tryz.prog
 have hsz0 := hown0.size_le
 clear hF hown0
 go_enter Tryz.func61,Tryz.ntmps61
 go_wp2_with fail
 refine HN.out.mono ?_
 rintro e w' ⟨rfl,rfl⟩
 have HW0 := hZ0 ((Kept.refl NoF w).alloc (.map #[] 0))
 have HM0 := hZ0 (SeenZ.made w)
 go_wp2_with (first
  | (at_range;refine wpList_range_own _ rfl _ 89 rfl 3 9 intKeyed Tryz.underlying89 _ mb _ _ rfl hown1 ?_;intro w0 hrg0 hg0 hs0)
  | go_in)
 go_frame
 clear hmk
 have hW0s : (w.alloc (.map #[] 0)).heap.size = w.heap.size + 1 := by simp
 rw [hW0s] at hrg0 hs0 ⊢
 have hk0 : Kept NoF w w0 := HW0.out.grownBy hg0 (fun k hk => by cases hk)
 have hm0 : SeenZ w0 w.heap.size 0 (fun x => has D0 (.int .i64 x) && !has D0 (.int .i64 x)) := by
  have e : (fun x : Int => has D0 (.int .i64 x) && !has D0 (.int .i64 x)) = fun _ => false := by funext x;cases has D0 (.int .i64 x) <;> rfl
  rw [e]
  exact HM0.out.kept ((Kept.refl NoF _).grownBy hg0 (fun k hk => by cases hk)) (fun x => x)
 have HK0 := hZ0 hk0;clear hk0
 have HM1 := hZ0 hm0;clear hm0
 clear hg0 hs0 hW0s
 go_loopw [4] (fun v4 wr => ∃ (left : Lit -> Bool) (cnt na : Nat),wr.ranges Tryz.prog 3 (plainElem Tryz.prog 9) mb (w.heap.size + 1) n D0 left cnt /\ na + cnt <= Maps.size D0 /\ SeenZ wr w.heap.size na (fun x => has D0 (.int .i64 x) && !left (.int .i64 x)) /\ Kept NoF w wr) (fun _ wr => wr.rangeLeft mb (w.heap.size + 1))
 case atStart => exact ⟨_,_,0,hrg0,by simp,HM1.out,HK0.out⟩
 case round =>
  obtain ⟨left,cnt,na,hrg,hcs,hse,hk⟩ := hrel
  have HSE := hZ0 hse;clear hse
  have HK := hZ0 hk;clear hk
  have hsz := HK.out.size
  go_wp2_with (first
   | (at_next;refine wpList_next_ranges _ rfl _ rfl 3 intKeyed (plainElem Tryz.prog 9) encZ (fun v : Value => v) (fun key kl hk => by obtain ⟨x,hx,_⟩ := Maps.keyOf_i64 Tryz.underlying3 hk;exact ⟨x,hx⟩) (fun v y hv => ⟨v,rfl⟩) mb (w.heap.size + 1) n _ _ _ rfl hrg ?_ ?_)
   | go_in)
  ·intro hc0 hl0
   have hse2 : SeenZ wr w.heap.size n (fun x => has D0 (.int .i64 x) || ([] : List Pc).any fun p => decide (p.1 = x)) := by
    have e : (fun x : Int => has D0 (.int .i64 x) && !left (.int .i64 x)) = fun x => has D0 (.int .i64 x) || ([] : List Pc).any fun p => decide (p.1 = x) := by funext x;rw [hl0];simp
    rw [<- e]
    exact HSE.out.mono (by omega)
   have HSE2 := hZ0 hse2;clear hse2 HSE
   have c1 : wr.cell? ⟨g,1,none⟩ = some (.slice A ps.length c) := (HG.out.kept HK.out (fun x => x)).cell 1
   clear hrg hl0
   obtain ⟨w1,hw1⟩ : ∃ w1 : World,w1 = wr := ⟨_,rfl⟩
   subst hw1
   go_wp2_with fail
   go_loopw [6,26] (fun v6 v26 wr => ∃ i : Nat,i <= ps.length /\ v26 = .int .i64 i /\ SeenZ wr w.heap.size (n + i) (fun x => has D0 (.int .i64 x) || (ps.take i).any fun p => decide (p.1 = x)) /\ Kept NoF w wr) (fun _ v26 _ => ps.length - (RowKit.intOf v26).toNat)
   case atStart => exact ⟨0,Nat.zero_le _,rfl,HSE2.out,HK.out⟩
   case round =>
    obtain ⟨i,hi,rfl,hse,hk⟩ := hrel
    have HSE := hZ0 hse;clear hse
    have HK := hZ0 hk;clear hk
    have hsz := HK.out.size
    by_cases hil : i < ps.length
    ·obtain ⟨q,hq⟩ : ∃ q,ps[i]? = some q := ⟨_,List.getElem?_eq_getElem hil⟩
     obtain ⟨ad,rfl,hl1,e0,e1⟩ := pc_cells (HS.out.kept HK.out (fun _ _ x => x)) (by omega) i q hq
     have hq1 : I64 q.1 := HPI.out q (List.mem_of_getElem? hq)
     have hwl := HSE.out.lt
     obtain ⟨w3,hst,hse3,hg3⟩ := SeenZ.store (w := wr.alloc (.cells #[.int .i64 q.1,.string q.2] 169)) (HSE.out.kept ((Kept.refl NoF _).alloc _) (fun x => x)) (by unfold maxLen;omega) hq1
     have hse4 : SeenZ w3 w.heap.size (n + (i + 1)) (fun x => has D0 (.int .i64 x) || (ps.take (i + 1)).any fun p => decide (p.1 = x)) := by
      have e : (fun y : Int => decide (y = q.1) || (has D0 (.int .i64 y) || (ps.take i).any fun p => decide (p.1 = y))) = fun y => has D0 (.int .i64 y) || (ps.take (i + 1)).any fun p => decide (p.1 = y) := by
       funext y
       rw [take_snoc hq,List.any_append]
       by_cases hy : y = q.1
       ·subst hy;simp
       ·have hy' : ¬ q.1 = y := fun h => hy h.symm
        simp [hy,hy']
      rw [<- e]
      exact hse3
     have hk3 : Kept NoF w w3 := (HK.out.alloc _).grownBy hg3 (fun k hk => by injection hk with hk;exact .inr (by omega))
     have HSE4 := hZ0 hse4;clear hse4 hse3
     have HK3 := hZ0 hk3;clear hk3 hg3
     obtain ⟨q1,q2⟩ := q
     dsimp only at e0 e1 hst
     clear hq hq1
     go_wp2_with fail
     go_roundw
     case rel => exact ⟨i + 1,by omega,by go_num,HSE4.out,HK3.out⟩
     case measure => simp [RowKit.intOf];omega
    ·obtain rfl : i = ps.length := by omega
     rw [List.take_length] at HSE
     obtain ⟨D,hownD,hDs⟩ := HSE.out
     have hDz := hownD.size_le
     have hkz := keysZ hownD
     have hwf := intKeys_wf hownD Tryz.underlying3
     go_wp2_with fail
     refine (It.keys_any _ _).mono ?_
     rintro e w' ⟨rfl,rfl⟩
     go_wp2_with fail
     refine (It.sorted_any w.heap.size _ D _ wr hownD (by unfold maxLen;omega) (by omega)).mono ?_
     rintro e w2 ⟨v,ss,rfl,hperm,hrow,hb2⟩
     obtain ⟨A',c',rfl,hcc⟩ := own_form hrow
     have hfa : FilesAre m ps (ss.mergeSort leI) := by
      have tr : ∀ a b c : Int,leI a b = true -> leI b c = true -> leI a c = true := fun a b c h1 h2 => by simp only [leI,decide_eq_true_eq] at *;exact Int.le_trans h1 h2
      have to : ∀ a b : Int,(leI a b || leI b a) = true := fun a b => by simp only [leI,Bool.or_eq_true,decide_eq_true_eq];exact Int.le_total a b
      have h1 := List.pairwise_mergeSort tr to ss
      have h2 : (ss.mergeSort leI).Nodup := (List.mergeSort_perm ss leI).nodup_iff.2 (hperm.nodup_iff.2 hkz.1)
      refine ⟨(h1.and h2).imp fun {a b} h => by have := h.1;simp only [leI,decide_eq_true_eq] at this;have := h.2;omega,fun x => ?_⟩
      rw [List.mem_mergeSort,hperm.mem_iff,hkz.2 x,hDs x]
      constructor
      ·intro hx
       have hi : I64 x := hwf x ((hkz.2 x).2 (by rw [hDs x];exact hx))
       refine ⟨hi,?_⟩
       rw [(HD0.out x hi).1] at hx
       exact hx
      ·rintro ⟨hi,hx⟩
       rw [(HD0.out x hi).1]
       exact hx
     have hrow0 : w2.ownsRow 0 3 1 (.slice A' ss.length c') ss.length ((ss.mergeSort leI).map (Value.int .i64)) := ⟨hrow.1,hrow.2.imp id fun ⟨g,cap,cur,a,_,c⟩ => ⟨g,cap,cur,a,Nat.zero_le _,c⟩⟩
     have hnew := hrow.lt
     have hk2 : Kept NoF w w2 := (HK.out.alloc _).then (Kept.of_below (hb2.mono (B' := wr.heap.size + 1) (Nat.le_refl _)) (fun k hk _ => by simpa using hk))
     have hlen2 : (ss.mergeSort leI).length = ss.length := List.length_mergeSort _
     have HROW := hZ0 hrow0;clear hrow0 hrow
     have HNEW := hZ0 hnew;clear hnew
     have HFA := hZ0 hfa;clear hfa
     have HK2 := hZ0 hk2;clear hk2
     have HLEN := hZ0 hlen2;clear hlen2
     clear hperm hkz hwf hDs hb2 hownD hcc
     go_wp2_with fail
     go_ret
     exact ⟨ss.mergeSort leI,A',c',by rw [HLEN.out];rfl,HFA.out,by rw [HLEN.out];exact HROW.out,by rw [HLEN.out];exact fun k hk => by have := (HNEW.out k hk).1;omega,HK2.out⟩
  ·intro x cb kl yd yp w2 cnt2 hkey hlk hv hat hrg2 hlt hg2 hs2 hen
   obtain ⟨x',ex,rfl,hxw⟩ := Maps.keyOf_i64 Tryz.underlying3 hkey
   obtain rfl : x = x' := encZ_inj ex
   have hk2 : Kept NoF w w2 := HK.out.grownBy hg2 (fun k hk => by injection hk with hk;exact .inr (by omega))
   have hse2 : SeenZ w2 w.heap.size na (fun x => has D0 (.int .i64 x) && !left (.int .i64 x)) := HSE.out.kept ((Kept.refl (fun k => k = w.heap.size + 1) wr).grownBy hg2 (fun k hk => by injection hk with hk;exact .inl hk.symm)) (by omega)
   obtain ⟨w3,hst,hse3,hg3⟩ := hse2.store (by unfold maxLen;omega) hxw
   have hhas : has D0 (.int .i64 x) = true := has_true_of_atKey hat
   have hse4 : SeenZ w3 w.heap.size (na + 1) (fun y => has D0 (.int .i64 y) && !(left (.int .i64 y) && !(Lit.int .i64 y).sameKey (.int .i64 x))) := by
    have e : (fun y : Int => decide (y = x) || (has D0 (.int .i64 y) && !left (.int .i64 y))) = fun y => has D0 (.int .i64 y) && !(left (.int .i64 y) && !(Lit.int .i64 y).sameKey (.int .i64 x)) := by
     funext y
     by_cases hy : y = x
     ·subst hy;simp [hhas,Lit.sameKey]
     ·simp [hy,Lit.sameKey]
    rw [<- e]
    exact hse3
   have hrg3 := hrg2.kept hg3 (fun e => by have := Option.some.inj e;omega) (fun e => by have := Option.some.inj e;omega)
   have hk3 : Kept NoF w w3 := hk2.grownBy hg3 (fun k hk => by injection hk with hk;exact .inr (by omega))
   have HSE4 := hZ0 hse4;clear hse4 hse3 hse2
   have HK3 := hZ0 hk3;clear hk3 hk2
   clear hs2 hkey hv hat hhas hg3
   unfold encZ at hen
   go_wp2_with fail
   go_roundw
   case rel => exact ⟨_,cnt2,na + 1,hrg3,by omega,HSE4.out,HK3.out⟩
   case measure => rw [hrg3.left_eq,hrg.left_eq];exact hlt
end Disk
end Go.Proofs.YtgffjliedjhbaaaGreat

/- Part 23 of what the proof needs. -/
import Derived.Test.YtobfdolhgnoedaaAG01
import Derived.Test.YtobfdolhgnoedaaAG11
import Derived.Test.YtobfdolhgnoedaaAG13
import Derived.Test.YtobfdolhgnoedaaAG20
import Derived.Laws.IdiomStrings
import Derived.BigRegion
import Derived.Deep.RegionLaw
set_option linter.unusedSimpArgs false
set_option linter.unusedVariables false
set_option maxHeartbeats 32000000
set_option maxRecDepth 100000
namespace Go.Proofs.Ytobfdolhgnoedaa
open Go.RowKit
set_option maxRecDepth 100000
namespace Keys
theorem kcheck_any (s : ByteArray) (w : World) :
  Calls Try.prog 48 #[.string s] w fun e w' => e = .returned (.int .i64 (if s.size < 1 \/ 8 < s.size then 10 else 0)) /\ w = w' := by
 have hl : s.toList.length = s.size := by rw [ByteArray.toList_eq];simp
 by_cases h : s.size < 1 \/ 8 < s.size
 ·rw [if_pos h]
  refine check_bad s w ?_
  rcases h with h | h
  ·exact .inl (by rw [List.isEmpty_iff];exact List.eq_nil_of_length_eq_zero (by omega))
  ·exact .inr h
 ·rw [if_neg h]
  refine check_ok s w ?_ (by omega)
  rw [List.isEmpty_eq_false_iff]
  intro e
  rw [e] at hl
  simp at hl
  omega
theorem rin_any (k f t : ByteArray) (w : World) :
  Calls Try.prog 25 #[.string k,.string f,.string t] w fun e w' => e = .returned (.bool (!Op.bytesLess k.toList f.toList && (t.toList.isEmpty || Op.bytesLess k.toList t.toList))) /\ w = w' := by
 by_cases h1 : Op.bytesLess k.toList f.toList = true
 ·go_enter Try.func25,Try.ntmps25
  go_wp2
  go_ret
  exact ⟨by simp [h1],rfl⟩
 ·have h1' : Op.bytesLess k.toList f.toList = false := by simpa using h1
  clear h1
  by_cases h2 : t.toList.isEmpty = true
  ·go_enter Try.func25,Try.ntmps25
   go_wp2
   go_ret
   exact ⟨by simp [h1',h2],rfl⟩
  ·have h2' : t.toList.isEmpty = false := by simpa using h2
   clear h2
   go_enter Try.func25,Try.ntmps25
   go_wp2
   go_ret
   exact ⟨by simp [h1',h2'],rfl⟩
theorem nextAt_take (l : List UInt8) (n : Nat) : ∀ k,k <= n -> nextAt (l.take n) k = nextAt l k := by
 intro k
 induction k with
 | zero => intro _;rfl
 | succ k ih =>
  intro h
  rw [nextAt,nextAt,ih (by omega)]
  have e : (l.take n).getD k 0 = l.getD k 0 := by
   rw [List.getD_eq_getElem?_getD,List.getD_eq_getElem?_getD,List.getElem?_take,if_pos (by omega)]
  rw [e,List.take_take,show min k n = k by omega]
theorem conv_str (W : World) (s : ByteArray) : ∃ W1 cap,(convert 9 125 (.string s)).run Try.prog W = .ok (.slice (some ⟨W.heap.size,0,none⟩) s.size cap) W1 /\ s.size <= cap /\ Lib.Bytes W1 W.heap.size 0 s /\ (∀ i,i < s.size -> W1.frozen? ⟨W.heap.size,i,none⟩ = false) /\ Below W.heap.size W W1 /\ W.heap.size < W1.heap.size := by
 refine ⟨_,_,run_bytes_of_string W 9 125 5 s Try.underlying9 Try.underlying125 Try.underlying5,?_,?_,?_,?_,?_⟩
 ·exact grownCap_ge _ _ _ _
 ·intro i hi
  have h1 := cell_of_row (W.drew.alloc (.cells (bytesRow s (grownCap W s.size 0 5)) 5 ((bytesRow s (grownCap W s.size 0 5)).size,(bytesRow s (grownCap W s.size 0 5)).size + 1))) W.heap.size i _ _ _ (heap_alloc_new W.drew _)
  rw [Nat.zero_add,h1,bytesRow_at s _ i (by simpa using hi)]
  rfl
 ·intro i hi
  have hsz : i < (bytesRow s (grownCap W s.size 0 5)).size := by
   have := grownCap_ge W s.size 0 5
   simp [bytesRow]
   omega
  have h1 := heap_alloc_new W.drew (.cells (bytesRow s (grownCap W s.size 0 5)) 5 ((bytesRow s (grownCap W s.size 0 5)).size,(bytesRow s (grownCap W s.size 0 5)).size + 1))
  unfold World.frozen?
  have h2 : W.drew.heap.size = W.heap.size := rfl
  rw [h2] at h1
  simp only [h1]
  simp
  omega
 ·exact ((Below.refl _ _).drew).alloc (Nat.le_refl _) _
 ·simp
theorem rnext_long (s : ByteArray) (w : World) (h : 8 <= s.size) (h' : s.size <= maxLen) :
  Calls Try.prog 52 #[.string s] w (Ret (nextAt s.data.toList 8) w.heap.size w) := by
 unfold maxLen at h'
 obtain ⟨t,ht⟩ : ∃ t,t = s.extract 0 8 := ⟨_,rfl⟩
 have ht8 : t.size = 8 := by rw [ht];simp;omega
 have htl : nextAt s.data.toList 8 = nextAt t.data.toList 8 := by
  rw [ht,Lib.extract_data]
  simp only [List.drop_zero,Nat.sub_zero]
  exact (nextAt_take _ 8 8 (Nat.le_refl _)).symm
 obtain ⟨W1,cap,hcv,hcap,hby,hfr,hbl,hlt⟩ := conv_str w t
 rw [ht] at hcv
 rw [ht8] at hcap
 have hts : (s.extract 0 8).size = 8 := by rw [<- ht,ht8]
 rw [hts] at hcv
 have HTL := hZ0 htl;clear htl
 have HBY := hZ0 hby;clear hby
 have HFR := hZ0 hfr;clear hfr
 have HBL := hZ0 hbl;clear hbl
 have HT8 := hZ0 ht8;clear ht8 hts ht
 go_enter Try.func52,Try.ntmps52
 go_wp2_with fail
 clear hcv
 go_loop [3] (fun v3 => ∃ k : Nat,k <= 8 /\ v3 = .slice (some ⟨w.heap.size,0,none⟩) k cap /\ nextAt t.data.toList 8 = nextAt t.data.toList k) (fun v3 => match v3 with | .slice _ n _ => n | _ => 0)
 case atStart => exact ⟨8,Nat.le_refl _,rfl,rfl⟩
 case round =>
  obtain ⟨k,hk,rfl,he⟩ := hrel
  have HE := hZ0 he;clear he
  cases k with
  | zero =>
   go_wp2
   go_ret
   exact ⟨_,rfl,by rw [HTL.out,HE.out];rfl,HBL.out⟩
  | succ m =>
   have hm8 : m < t.size := by have := HT8.out;omega
   have c0 : W1.cell? ⟨w.heap.size,m,none⟩ = some (.int .u8 (t[m].toNat : Int)) := by have := HBY.out m hm8;rwa [Nat.zero_add] at this
   have f0 := HFR.out m hm8
   have e2 : t.data.toList.getD m 0 = t[m] := by
    rw [List.getD_eq_getElem?_getD,List.getElem?_eq_getElem (by simpa using hm8)];rfl
   have HE2 := hZ0 e2;clear e2
   have hb := UInt8.toNat_lt t[m]
   have hmc : (m : Int) <= cap := by omega
   by_cases h255 : t[m].toNat = 255
   ·have h1 : ((t[m].toNat : Int) == 255) = true := by simp [h255]
    have hnx : nextAt t.data.toList (m + 1) = nextAt t.data.toList m := by
     rw [nextAt,HE2.out,if_neg (by rw [UInt8.lt_iff_toNat_lt];have : (255 : UInt8).toNat = 255 := rfl;omega)]
    have HNX := hZ0 hnx;clear hnx
    go_wp2
    go_round
    case rel => exact ⟨m,by omega,by go_num,by rw [HE.out,HNX.out]⟩
    case measure => first | omega | (simp;done) | (simp;omega)
   ·have h1 : ((t[m].toNat : Int) == 255) = false := by simpa using (fun h => h255 (by omega))
    have hnx : nextAt t.data.toList (m + 1) = t.data.toList.take m ++ [t[m] + 1] := by
     rw [nextAt,HE2.out,if_pos (by rw [UInt8.lt_iff_toNat_lt];have : (255 : UInt8).toNat = 255 := rfl;omega)]
    have HNX := hZ0 hnx;clear hnx
    obtain ⟨r,hr⟩ : ∃ r : ByteArray,r = ⟨(t.data.toList.take m ++ [t[m] + 1]).toArray⟩ := ⟨_,rfl⟩
    have hrl : r.data.toList = t.data.toList.take m ++ [t[m] + 1] := by rw [hr]
    have hrs : r.size = m + 1 := by
     have : r.data.toList.length = m + 1 := by rw [hrl];simp;omega
     simpa using this
    have hrb : Lib.Bytes (W1.setCell ⟨w.heap.size,m,none⟩ (.int .u8 ((t[m].toNat : Int) + 1))) w.heap.size 0 r := by
     intro i hi
     rw [Nat.zero_add]
     have hil : r.data.toList[i]? = some r[i] := by rw [List.getElem?_eq_getElem (by simpa using hi)];rfl
     rw [hrl] at hil
     by_cases him : i = m
     ·subst him
      rw [World.cell?_setCell_same _ _ _ c0]
      rw [List.getElem?_append_right (by simp;omega)] at hil
      have : i - (t.data.toList.take i).length = 0 := by simp;omega
      rw [this] at hil
      simp at hil
      rw [<- hil]
      have e1 : (t[i] + 1).toNat = t[i].toNat + 1 := by
       rw [UInt8.toNat_add]
       have : (1 : UInt8).toNat = 1 := rfl
       omega
      rw [e1]
      rfl
     ·have hlt3 : i < m := by omega
      rw [World.cell?_setCell_other _ _ _ _ (fun h : (⟨w.heap.size,m,none⟩ : Addr) = ⟨w.heap.size,i,none⟩ => him (by injection h with _ h;exact h.symm))]
      rw [List.getElem?_append_left (by simp;omega),List.getElem?_take,if_pos hlt3] at hil
      have h3 := HBY.out i (by omega)
      rw [Nat.zero_add] at h3
      rw [h3]
      have h4 : t.data.toList[i]? = some t[i] := by rw [List.getElem?_eq_getElem (by simp;omega)];rfl
      rw [h4] at hil
      injection hil with hil
      rw [hil]
    have hcv2 := Lib.run_convert_whole (P := Try.prog) (W1.setCell ⟨w.heap.size,m,none⟩ (.int .u8 ((t[m].toNat : Int) + 1))) 125 5 9 Try.underlying125 Try.underlying5 Try.underlying9 w.heap.size 0 r hrb cap
    rw [hrs] at hcv2
    have HRL := hZ0 hrl;clear hrl hr hrs hrb
    go_wp2
    go_ret
    exact ⟨r,rfl,by rw [HRL.out,HTL.out,HE.out,HNX.out],HBL.out.trans (((Kept.refl (fun k => k = w.heap.size) W1).put (.inl rfl)).below (by omega) (fun k hk => by omega))⟩
theorem rnext_short (s : ByteArray) (w : World) (h : s.size < 8) :
  Calls Try.prog 52 #[.string s] w (Ret (s.data.toList ++ [0]) w.heap.size w) := by
 have hcv := conv_one (w.alloc (Obj.cells #[Value.int IntKind.u8 0] 5)) w.heap.size 0 1 (by omega) (by omega) (by simp)
 go_enter Try.func52,Try.ntmps52
 go_wp2
 go_ret
 exact ⟨_,rfl,by rw [ByteArray.data_append,Array.toList_append],(Below.refl _ _).alloc (Nat.le_refl _) _⟩
theorem rnext_any (s : ByteArray) (w : World) (h' : s.size <= maxLen) : Calls Try.prog 52 #[.string s] w (Ret (nextL s.data.toList) w.heap.size w) := by
 have hl : s.data.toList.length = s.size := by simp
 unfold nextL
 by_cases h : s.size < 8
 ·rw [if_pos (by omega)]
  exact rnext_short s w h
 ·rw [if_neg (by omega)]
  exact rnext_long s w (by omega) h'
end Keys
namespace Ask
open Plan Ops Ent Msg MO Vn
attribute [local go_sem ↓] storeVar_msg loadVar_msg
section
variable {w : World} {p : Option Addr}
def NoT (w : World) (p : Option Addr) : Prop := p = none \/ ∃ b,p = some ⟨b,0,none⟩ /\ Has w b 48 #[.nilIface,.int .i64 0,.int .i64 0,.bool false,.int .i64 0,.int .i64 0,.int .u64 0,.int .i64 0,.slice none 0 0]
theorem NoT.kept {w w' : World} {p : Option Addr} (h : NoT w p) (hk : Kept NoF w w') : NoT w' p := by
 rcases h with h | ⟨b,h,hh⟩
 ·exact .inl h
 ·exact .inr ⟨b,h,hh.kept hk (fun z => z)⟩
end
end Ask
namespace Ask
open Plan Ops Ent Msg MO Vn
attribute [local go_sem ↓] storeVar_msg loadVar_msg
theorem askA_good (w : World) : QGood w askA := ⟨Src.nil _ _ _,Nat.le_refl _,by show (0 : Nat) <= maxLen;unfold maxLen;decide,fun o ho => (by cases ho),by unfold I64;decide,by unfold I64;decide,by unfold I64;decide,by unfold maxTs;decide,by show (0 : Nat) <= maxLen;unfold maxLen;decide,by show (0 : Nat) <= maxLen;unfold maxLen;decide⟩
theorem awake_a (w : World) : Calls Try.prog 8 #[] w fun e w' => e = .returned (.bool true) /\ Kept NoF w w' := by
 have hnew := pnew_any w 0 3 askA (askA_good w) (by decide)
 have HNEW := hZ0 hnew
 clear hnew
 unfold askA qagg qcell at HNEW
 dsimp only [List.length_nil] at HNEW
 go_enter Try.func8,Try.ntmps8
 go_wp2_with fail
 refine HNEW.out.mono ?_
 rintro e w1 ⟨-,hp⟩
 obtain ⟨X,rfl,hp,hft,hk1⟩ := hp askA_ok
 have hok := TOk.new (cl := 0) (rq := 3) (a := askA) (by unfold I64;decide) askA_ok
 have hp' : PAt w1 X (newT 0 3 askA) := hp
 have hnx := pnext_any hp' hok (by decide) 0 (-1)
 unfold NextPost at hnx
 rw [askA_next] at hnx
 have HNX := hZ0 hnx;have HP := hZ0 hp';have HK1 := hZ0 hk1;have HFT := hZ0 (show ∀ k,foot X (newT 0 3 askA) k -> w.heap.size <= k from hft);have HOK := hZ0 hok
 clear hnx hp hp' hk1 hft hok HNEW
 go_wp2_with fail
 refine HNX.out.mono ?_
 rintro e w2 ⟨A2,c2,rfl,-,-,-,hk2⟩
 obtain ⟨Wz,W3,hWz,hst,hb3,hk3⟩ := lay_msg w2 { zmsg with k := 9,req := 3,at' := 5,n := 2,oA := A2,oc := c2 }
 have HK3 := hZ0 (hk2.then hk3);have HB3 := hZ0 hb3
 have HK13 := hZ0 (HK1.out.then (hk2.then hk3))
 unfold xcell zmsg at hst
 dsimp only [List.length_nil] at hst
 unfold xagg xcell zmsg
 dsimp only [List.length_nil]
 obtain ⟨x2,hx2⟩ : ∃ x2,w2.heap.size = x2 := ⟨_,rfl⟩
 rw [hx2] at hst HB3
 have HX2 := hZ0 (And.intro hx2 hk2.size)
 -- the pairs,the message
 obtain ⟨W4,hW4⟩ : ∃ W4,W3.alloc (.cells (pcells prsA).toArray 68) = W4 := ⟨_,rfl⟩
 have hk4 : Kept NoF W3 W4 := by rw [<- hW4];(repeat' (first | (with_reducible first | exact kR0 | apply kP0 | apply kN0 | apply kD0 | apply kA0) | (right;simp;done)))
 have hn4 : Has W4 W3.heap.size 68 (pcells prsA).toArray := by rw [<- hW4];exact Has.new _ _ _
 have hp4 := HP.out.quiet (HK3.out.then hk4)
 have htk : ∀ c,2 <= c -> c <= maxLen -> Calls Try.prog 11 #[.pointer (some ⟨X.b,0,none⟩),.int .i64 1,xagg (msgA W3.heap.size c)] W4 (PPost W4 X (newT 0 3 askA) (.bool true) tsA) := fun c h1 h2 => by
  have := ptake_any hp4 HOK.out 1 (msgA W3.heap.size c) ⟨Src.of_has (m := 2) (size := 2) hn4 rfl,⟨h1,h2⟩,fun _ ad e hf => by
   have e2 : ad = ⟨W3.heap.size,0,none⟩ := by have e3 : some (⟨W3.heap.size,0,none⟩ : Addr) = some ad := e;injection e3 with e3;exact e3.symm
   subst e2
   have h9 : W3.heap.size < w1.heap.size := HP.out.lt hf
   have := HK3.out.size;omega,fun y hy => by
   unfold maxLen
   rcases List.mem_cons.1 hy with rfl | hy
   ·decide
   ·rcases List.mem_cons.1 hy with rfl | hy
    ·decide
    ·cases hy⟩
  rw [askA_take] at this
  exact this
 have HTK := hZ0 htk;have HK4 := hZ0 hk4
 unfold msgA prsA xagg xcell zmsg at HTK
 dsimp only [List.length_cons,List.length_nil] at HTK
 simp only [pcells,pcell,prsA,List.flatMap_cons,List.flatMap_nil,List.cons_append,List.nil_append] at hW4
 clear hk2 hk3 hb3 hk4 hn4 hp4 htk
 go_wp2_with fail
 clear hW4 hWz hst hx2
 refine (HTK.out 2 (by decide) (by unfold maxLen;decide)).mono ?_
 rintro e w5 ⟨rfl,X',hp5,hb5,hft5,hk5⟩
 have hok5 : TOk tsA := by
  have := HOK.out.take 1 (msgA 0 0)
  rw [askA_take] at this
  exact this
 have hnx := pnext_any hp5 hok5 (by decide) 0 (-1)
 unfold NextPost at hnx
 rw [askA_next2,hb5] at hnx
 have hbx := (HB3.out.kept HK4.out (fun z => z)).kept hk5 (fun hf => by have h9 := HP.out.lt hf;have := HX2.out;omega)
 have HNX2 := hZ0 hnx;have HBX := hZ0 hbx;have HK5 := hZ0 hk5
 clear hnx hbx hp5 hb5 hft5 hk5 hok5
 go_wp2_with fail
 refine HNX2.out.mono ?_
 rintro e w6 ⟨A6,c6,rfl,-,-,-,hk6⟩
 obtain ⟨Wy,W7,hWy,hst,hb7,hk7⟩ := lay_msg w6 { zmsg with k := 9,req := 3,key := ⟨#[98,0]⟩,at' := 5,n := 1,oA := A6,oc := c6 }
 have hbx := (HBX.out.kept hk6 (fun z => z)).kept hk7 (fun z => z)
 have g0 : W7.cell? ⟨x2,0,none⟩ = some (.int .i64 9) := hbx.cell 0
 have g7 : W7.cell? ⟨x2,7,none⟩ = some (.int .i64 2) := hbx.cell 7
 unfold xcell zmsg at hst hb7
 dsimp only [List.length_nil] at hst hb7
 unfold xagg xcell zmsg
 dsimp only [List.length_nil]
 obtain ⟨x6,hx6⟩ : ∃ x6,w6.heap.size = x6 := ⟨_,rfl⟩
 rw [hx6] at hst hb7
 have f7 : W7.cell? ⟨x6,7,none⟩ = some (.int .i64 1) := hb7.cell 7
 have f11 : W7.cell? ⟨x6,11,none⟩ = some (.string ⟨#[98,0]⟩) := hb7.cell 11
 have HE := hZ0 (show Kept NoF w W7 from (((HK13.out.then HK4.out).mono (G := foot X (newT 0 3 askA)) (fun _ z => z.elim)).then HK5.out).trans (hk6.then hk7) (fun _ z => z.elim) |>.trans (Kept.refl NoF W7) (fun _ z => z.elim) |> fun h => ⟨h.os,h.tape,h.output,h.size,fun k hk _ => h.block k hk (fun hf => by have := HFT.out k hf;omega)⟩)
 clear hbx hb7 hk6 hk7
 go_wp2
 go_ret
 exact ⟨rfl,HE.out⟩
end Ask
end Go.Proofs.Ytobfdolhgnoedaa

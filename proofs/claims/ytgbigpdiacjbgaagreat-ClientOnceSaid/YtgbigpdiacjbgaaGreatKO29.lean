/- Part 30 of what the proof needs. -/
import Derived.Test.YtgbigpdiacjbgaaGreatKO28
set_option linter.unusedSimpArgs false
set_option linter.unusedVariables false
set_option maxHeartbeats 32000000
set_option maxRecDepth 100000
namespace Go.Proofs.YtgbigpdiacjbgaaGreat
open Go.RowKit
set_option maxRecDepth 100000
namespace Mof
open Plan Ops Ent Vn Msg Cof Wire
theorem elemEntM : Elem Tryz.prog 60 183 4 48 := by
 obtain ⟨i0,hi,hz0,hz1,hz2⟩ := info_parts (show (Tryz.prog.info? 183).map (fun i => (i.zero,i.size,i.bytes)) = some (some (.agg #[.int .i64 0,.int .i64 0,.slice none 0 0,.int .u64 0]),4,48) by kernel_rfl)
 exact ⟨Tryz.underlying60,⟨i0,_,hi,hz0,hz1,hz2,rfl⟩,by decide⟩
def stripE (y : EntR) : EntR := { y with A := none,c := 0 }
def entOf (b : Batch × Int) : EntR := ⟨b.1.cl,b.1.req,none,0,b.1.ops,b.2⟩
def rEnts (s : ByteArray) : Nat -> RS -> List EntR × RS × Int
 | 0,r => ([],r,0)
 | k + 1,r => if (rEnts s k r).2.2 ≠ 0 then rEnts s k r
   else if (inE s (rEnts s k r).2.1).2 ≠ 0 then ([],(rText s 65536 (rEnts s k r).2.1).2,(inE s (rEnts s k r).2.1).2)
   else ((rEnts s k r).1 ++ [entOf (inE s (rEnts s k r).2.1).1],(rText s 65536 (rEnts s k r).2.1).2,0)
theorem rEnts_stop (s : ByteArray) (r : RS) {i : Nat} (h : (rEnts s i r).2.2 ≠ 0) : ∀ k,rEnts s (i + k) r = rEnts s i r := by
 intro k
 induction k with
 | zero => rfl
 | succ k ih =>
  show rEnts s ((i + k) + 1) r = _
  rw [rEnts,ih,if_pos h]
theorem rEnts_len (s : ByteArray) (r : RS) : ∀ k,(rEnts s k r).1.length <= k := by
 intro k
 induction k with
 | zero => exact Nat.le_refl _
 | succ k ih =>
  rw [rEnts]
  split
  ·omega
  split
  ·exact Nat.zero_le _
  ·rw [List.length_append];simp;exact ih
theorem rBig_lt (s : ByteArray) (r : RS) : (rBig s r).1 < 18446744073709551616 := by
 unfold rBig
 split
 ·show (0 : Nat) < _;decide
 ·split
  ·rename_i n j hg
   obtain ⟨p1,p2,p3,p4⟩ := put_get hg
   exact p3
  ·show (0 : Nat) < _;decide
theorem inE_ts (s : ByteArray) (r : RS) : 0 <= (inE s r).1.2 /\ (inE s r).1.2 <= maxTs := by
 have z : (0 : Int) <= 0 /\ (0 : Int) <= maxTs := by unfold maxTs;decide
 unfold inE
 split
 ·exact z
 unfold ofE
 dsimp only
 split
 ·exact z
 split
 ·exact z
 ·have := rBig_lt (rText s 65536 r).1 (0,0)
  unfold maxTs
  dsimp only
  omega
def EntsAt (w : World) (B : Nat) (l : List EntR) : Prop := ∀ y ∈ l,Src w 3 y.A y.ops.length (cells y.ops) /\ y.ops.length <= y.c /\ (∀ ad,y.A = some ad -> B <= ad.block) /\ 0 <= y.ts /\ y.ts <= maxTs
theorem EntsAt.kept {w w' : World} {B : Nat} {l : List EntR} {F : Nat -> Prop} (h : EntsAt w B l) (hk : Kept F w w') (hF : ∀ k,F k -> k < B) : EntsAt w' B l := fun y hy => by
 obtain ⟨h1,h2,h3,h4⟩ := h y hy
 exact ⟨h1.kept hk (fun ad e hf => by have := h3 ad e;have := hF _ hf;omega),h2,h3,h4⟩
theorem Kept.up'' {F : Nat -> Prop} {a b : World} (h : Kept NoF a b) : Kept F a b := h.mono (fun _ z => z.elim)
theorem Src.kept0 {w w' : World} {size m : Nat} {A : Option Addr} {news : List Value} {F : Nat -> Prop} (h : Src w size A m news) (hk : Kept F w w') (hf : 0 < m -> ∀ ad,A = some ad -> ¬ F ad.block) : Src w' size A m news := by
 by_cases h0 : 0 < m
 ·exact h.kept hk (hf h0)
 ·exact ⟨h.1,fun hp => absurd hp h0⟩
def SepE (A : Option Addr) (n c : Nat) (l : List EntR) : Prop := ∀ y ∈ l,0 < y.ops.length -> ∀ ad,y.A = some ad -> (Value.slice A n c).ownBlock ≠ some ad.block
theorem EntsAt.kept2 {w w' : World} {B : Nat} {l : List EntR} {F : Nat -> Prop} (h : EntsAt w B l) (hk : Kept F w w') (hF : ∀ y ∈ l,0 < y.ops.length -> ∀ ad,y.A = some ad -> ¬ F ad.block) : EntsAt w' B l := fun y hy => by
 obtain ⟨h1,h2,h3,h4⟩ := h y hy
 exact ⟨Src.kept0 h1 hk (hF y hy),h2,h3,h4⟩
def SevPost (w : World) (g : Nat) (s : ByteArray) (r : RS) (n : Nat) (e : Ending) (w' : World) : Prop :=
 ∃ A c l',e = .returned (.tuple #[.slice A (List.length l') c,.int .i64 (rEnts s n r).2.2]) /\ l'.map stripE = (rEnts s n r).1 /\ Src w' 4 A l'.length (ecells l') /\ l'.length <= c /\ (∀ ad,A = some ad -> w.heap.size <= ad.block) /\ EntsAt w' w.heap.size l' /\ RdAt w' g s (rEnts s n r).2.1 /\ Kept (fun k => k = g) w w'
theorem several_any (w : World) (g : Nat) (s : ByteArray) (r : RS) (h : RdAt w g s r) (hs : s.size <= maxLen) :
  Calls Tryz.prog 101 #[.pointer (some ⟨g,0,none⟩)] w (SevPost w g s (rNum s 4 r).2 (rNum s 4 r).1) := by
 have hnum := num_any w g s r 4 h hs (by decide)
 have hn4 := rNum_le s 4 r
 have hgl := h.1.lt
 obtain ⟨q,hq⟩ : ∃ q,rNum s 4 r = q := ⟨_,rfl⟩
 rw [hq] at hnum hn4 ⊢
 obtain ⟨n,r3⟩ := q
 dsimp only at hnum hn4 ⊢
 have HNUM := hZ0 hnum;have HGL := hZ0 hgl
 clear hnum hgl h hq
 go_enter Tryz.func101,Tryz.ntmps101
 go_wp2_with fail
 refine HNUM.out.mono ?_
 rintro e w2 ⟨rfl,hr2,hk2⟩
 have HR2 := hZ0 hr2;have HK2 := hZ0 hk2
 clear hr2 hk2 HNUM
 go_wp2_with fail
 go_loopw [4,9] (fun v4 v9 wr => ∃ (i : Nat) (A : Option Addr) (c : Nat) (l' : List EntR),i <= n /\ v9 = .int .i64 i /\ v4 = .slice A l'.length c /\ (rEnts s i r3).2.2 = 0 /\ l'.map stripE = (rEnts s i r3).1 /\ NewSl 183 4 w.heap.size wr A l'.length c (ecells l') /\ EntsAt wr w.heap.size l' /\ SepE A l'.length c l' /\ RdAt wr g s (rEnts s i r3).2.1 /\ Kept (fun k => k = g) w wr) (fun _ v9 _ => n - (intOf v9).toNat)
 case atStart => exact ⟨0,none,0,[],Nat.zero_le _,rfl,rfl,rfl,rfl,⟨⟨rfl,.inl ⟨rfl,rfl⟩⟩,fun k hk => by simp [Value.ownBlock] at hk⟩,(fun y hy => by cases hy),(fun y hy => by cases hy),HR2.out,HK2.out⟩
 case round =>
  obtain ⟨i,A,c,l',hi,rfl,rfl,he0,hl,hr,hes,hsp,hrd,hk⟩ := hrel
  clear HR2 HK2
  by_cases hin : i < n
  ·have hine := inE_any wr g s (rEnts s i r3).2.1 hrd hs
   have hts := inE_ts s (rEnts s i r3).2.1
   have hstep : rEnts s (i + 1) r3 = if (inE s (rEnts s i r3).2.1).2 ≠ 0 then ([],(rText s 65536 (rEnts s i r3).2.1).2,(inE s (rEnts s i r3).2.1).2) else ((rEnts s i r3).1 ++ [entOf (inE s (rEnts s i r3).2.1).1],(rText s 65536 (rEnts s i r3).2.1).2,0) := by
    rw [rEnts,if_neg (by rw [he0];decide)]
   have hll := congrArg List.length hl
   rw [List.length_map] at hll
   have hl4 := rEnts_len s r3 i
   unfold inEPost at hine
   obtain ⟨r4,hr4⟩ : ∃ r4,(rEnts s i r3).2.1 = r4 := ⟨_,rfl⟩
   obtain ⟨l0,hl0⟩ : ∃ l0,(rEnts s i r3).1 = l0 := ⟨_,rfl⟩
   rw [hr4] at hine hts hstep
   rw [hl0] at hstep hl
   obtain ⟨v,hv⟩ : ∃ v,inE s r4 = v := ⟨_,rfl⟩
   rw [hv] at hine hts hstep
   obtain ⟨⟨⟨cl,rq,ops⟩,ts⟩,er⟩ := v
   unfold Cof.eagg at hine
   dsimp only at hine hts hstep
   have HINE := hZ0 hine;have HTS := hZ0 hts;have HSTEP := hZ0 hstep;have HL := hZ0 hl;have HR := hZ0 hr;have HES := hZ0 hes;have HK := hZ0 hk;have HSE := hZ0 hsp
   have HLL := hZ0 (show l'.length <= 4 by omega)
   clear hine hts hstep hl hr hes hsp hk hll hl4 hr4 hl0 hv hrd he0
   obtain ⟨no,hno⟩ : ∃ no,ops.length = no := ⟨_,rfl⟩
   rw [hno] at HINE
   have HNO := hZ0 hno;clear hno
   go_wp2_with fail
   refine HINE.out.mono ?_
   rintro e w5 ⟨A5,c5,rfl,hs5,hc5,-,hn5,hr5,hk5⟩
   have hgw : ∀ k,k = g -> k < w.heap.size := fun k e => by have := HGL.out;omega
   have hr5' : NewSl 183 4 w.heap.size w5 A l'.length c (ecells l') := ⟨own_kept HR.out.1 hk5 (fun k hk e => by have h1 := HR.out.2 k hk;have h2 := hgw k e;omega),HR.out.2⟩
   have HR5 := hZ0 hr5';have HES5 := hZ0 (HES.out.kept hk5 hgw);have HRD5 := hZ0 hr5
   have HK5 := hZ0 (HK.out.then hk5)
   have hn5' : ∀ ad,A5 = some ad -> w.heap.size <= ad.block := fun ad e => by have h1 := hn5 ad e;have h2 := HK.out.size;omega
   have HS5 := hZ0 (And.intro hs5 (And.intro hc5 hn5'))
   have hsn : ∀ ad,A5 = some ad -> (Value.slice A l'.length c).ownBlock ≠ some ad.block := fun ad e hb => by have h1 := hn5 ad e;have h2 := own_lt HR.out.1 hb;omega
   have hrz : ∀ k,(Value.slice A l'.length c).ownBlock = some k -> k < w5.heap.size := fun k hk => own_lt hr5'.1 hk
   have HSN := hZ0 hsn;have HRZ := hZ0 hrz
   clear hsn hrz hr5' hr5 hs5 hc5 hn5 hn5' hk5 HR HES HK hgw
   obtain ⟨W6,hW6⟩ : ∃ W6,w5.alloc (.cells #[.int .i64 cl,.int .i64 rq,.slice A5 no c5,.int .u64 ts] 183) = W6 := ⟨_,rfl⟩
   have hk6 : Kept NoF w5 W6 := by rw [<- hW6];(repeat' (first | (with_reducible first | exact kR0 | apply kP0 | apply kN0 | apply kD0 | apply kA0) | (right;simp;done)))
   have hb6 : Has W6 w5.heap.size 183 #[.int .i64 cl,.int .i64 rq,.slice A5 no c5,.int .u64 ts] := by rw [<- hW6];exact Has.new _ _ _
   have b0 := hb6.cell 0;have b1 := hb6.cell 1;have b2 := hb6.cell 2;have b3 := hb6.cell 3
   simp at b0 b1 b2 b3
   have HK6 := hZ0 hk6
   clear hk6 hb6
   by_cases he : er = 0
   rotate_left
   ·have he2 : (er != 0) = true := by simpa using he
    have hst := HSTEP.out
    rw [if_pos he] at hst
    have hstop := rEnts_stop s r3 (i := i + 1) (by rw [hst];exact he) (n - (i + 1))
    rw [show i + 1 + (n - (i + 1)) = n by omega,hst] at hstop
    have HST := hZ0 hstop
    clear hst hstop he b0 b1 b2 b3
    go_wp2_with fail
    clear hW6
    go_ret2
    refine ⟨none,0,[],by rw [HST.out];rfl,by rw [HST.out];rfl,Src.nil _ _ _,Nat.le_refl _,(fun ad e => by cases e),(fun y hy => by cases hy),by rw [HST.out];exact HRD5.out.kept HK6.out (fun z => z),HK5.out.trans HK6.out (fun _ z => z.elim)⟩
   subst he
   have hst := HSTEP.out
   rw [if_neg (by simp)] at hst
   have HST := hZ0 hst
   clear hst HSTEP
   have HM1 : Hid (l'.length + 1 <= maxLen) := hZ0 (by have := HLL.out;unfold maxLen;omega)
   have HM2 : Hid ((l'.length + 1) * 48 <= 140737488355328) := hZ0 (by have := HLL.out;omega)
   go_wp2_with (at_builtin;refine list_append_src elemEntM (.tmp 19) (.tmp 21) rfl rfl (Value.slice A l'.length c) rfl (own_kept (own_kept HR5.out.1 HK6.out (fun _ _ x => x)) (F := NoF) (by (repeat' (first | (with_reducible first | exact kR0 | apply kP0 | apply kN0 | apply kD0 | apply kA0) | (right;simp;done)))) (fun _ _ x => x)) 1 rfl (Src.of_has (t := 183) (size := 4) (m := 1) (cs := #[.int .i64 cl,.int .i64 rq,.slice A5 no c5,.int .u64 ts]) (by (repeat (first | with_reducible exact Has.new_at _ _ _ (by simp) | with_reducible apply Has.drew | with_reducible apply Has.drewN | with_reducible apply Has.alloc | (with_reducible apply Has.past <;> (try omega)) ))) rfl) (by intro u hu;simp at hu;rcases hu with rfl | rfl | rfl | rfl <;> rfl) HM1.out HM2.out ?_;intro A7 c7 w7 ho7 hg7 ha7;have HO7 := hZ0 ho7;have HG7 := hZ0 hg7;have HA7 := hZ0 ha7;clear ho7 hg7 ha7)
   go_roundw
   case measure => simp [intOf];omega
   case rel =>
    have hlen : (l' ++ [(⟨cl,rq,A5,c5,ops,ts⟩ : EntR)]).length = l'.length + 1 := by simp
    have hk57 : Kept (fun k => (Value.slice A l'.length c).ownBlock = some k) w5 w7 := Kept.grownBy (by (repeat' (first | (with_reducible first | exact kR0 | apply kP0 | apply kN0 | apply kD0 | apply kA0) | (exact HK6.out.mono (fun _ z => z.elim)) | (right;simp;done)))) HG7.out (fun k hk => .inl hk)
    have hz56 := HK6.out.size
    have hB : w.heap.size <= W6.heap.size := by have := HK5.out.size;omega
    have hnw : NewSl 183 4 w.heap.size w7 A7 (l'.length + 1) c7 (ecells l' ++ ecell ⟨cl,rq,A5,c5,ops,ts⟩) := by
     have h0 := HO7.out
     have hec : ecell ⟨cl,rq,A5,c5,ops,ts⟩ = [.int .i64 cl,.int .i64 rq,.slice A5 no c5,.int .u64 ts] := by unfold ecell;rw [HNO.out]
     rw [hec]
     exact NewSl.snoc HR5.out (Nat.le_trans hB (by simp [size_alloc])) h0 HA7.out
    have hgg : ∀ ad : Addr,(Value.slice A l'.length c).ownBlock ≠ some g := fun ad e => by have h1 := HR5.out.2 g e;have h2 := HGL.out;omega
    refine ⟨i + 1,A7,c7,l' ++ [⟨cl,rq,A5,c5,ops,ts⟩],by omega,by go_num,by rw [hlen],by rw [HST.out],?_,by rw [hlen,ecells_snoc];exact hnw,?_,?_,?_,?_⟩
    ·rw [HST.out,List.map_append,HL.out];rfl
    ·intro y hy
     rcases List.mem_append.1 hy with hy | hy
     ·exact (HES5.out.kept2 hk57 (fun y hy hp ad e hb => HSE.out y hy hp ad e hb)) y hy
     ·rw [List.mem_singleton.1 hy]
      exact ⟨by dsimp only;rw [HNO.out];exact HS5.out.1.kept hk57 (fun ad e hb => HSN.out ad e hb),by have := HS5.out.2.1;have := HNO.out;dsimp only;omega,HS5.out.2.2,HTS.out⟩
    ·intro y hy hp ad e hb
     rw [hlen] at hb
     rcases List.mem_append.1 hy with hy | hy
     ·rcases HA7.out with h1 | h1
      ·exact HSE.out y hy hp ad e (h1.symm.trans hb)
      ·have h2 := h1.symm.trans hb
       injection h2 with h2
       obtain ⟨ad2,e2,h3,_⟩ := (HES5.out y hy).1.2 hp
       rw [e] at e2;injection e2 with e2;subst e2
       simp [size_alloc] at h2
       omega
     ·rw [List.mem_singleton.1 hy] at e hp
      rcases HA7.out with h1 | h1
      ·exact HSN.out ad e (h1.symm.trans hb)
      ·have h2 := h1.symm.trans hb
       injection h2 with h2
       have hp' : 0 < ops.length := hp
       rw [HNO.out] at hp'
       have h0 := HS5.out.1
       obtain ⟨ad2,e2,h3,_⟩ := h0.2 hp'
       have e' : A5 = some ad := e
       rw [e'] at e2;injection e2 with e2;subst e2
       simp [size_alloc] at h2
       omega
    ·rw [HST.out]
     exact HRD5.out.kept hk57 (hgg ⟨0,0,none⟩)
    ·exact HK5.out.trans hk57 (fun k hk => .inr (HR5.out.2 k hk))
  ·obtain rfl : i = n := by omega
   have HK := hZ0 hk
   go_wp2_with fail
   go_ret2
   exact ⟨A,c,l',by rw [he0];rfl,hl,Src.of_own hr.1,(own_cap hr.1).1,row_above hr,hes,hrd,HK.out⟩
end Mof
namespace Mof
open Plan Ops Ent Vn Msg Cof Wire
theorem elemPairM : Elem Tryz.prog 34 84 2 32 := by
 obtain ⟨i0,hi,hz0,hz1,hz2⟩ := info_parts (show (Tryz.prog.info? 84).map (fun i => (i.zero,i.size,i.bytes)) = some (some (.agg #[.string ⟨#[]⟩,.string ⟨#[]⟩]),2,32) by kernel_rfl)
 exact ⟨Tryz.underlying34,⟨i0,_,hi,hz0,hz1,hz2,rfl⟩,by decide⟩
theorem pcells_snocM (l : List PairR) (p : PairR) : pcells (l ++ [p]) = pcells l ++ [.string p.key,.string p.val] := by
 unfold pcells
 rw [List.flatMap_append]
 simp [pcell]
def rPairs (s : ByteArray) : Nat -> RS -> List PairR × RS
 | 0,r => ([],r)
 | k + 1,r => ((rPairs s k r).1 ++ [⟨(rText s 8 (rPairs s k r).2).1,(rText s 8 (rText s 8 (rPairs s k r).2).2).1⟩],(rText s 8 (rText s 8 (rPairs s k r).2).2).2)
theorem rPairs_len (s : ByteArray) (r : RS) : ∀ k,(rPairs s k r).1.length = k := by
 intro k
 induction k with
 | zero => rfl
 | succ k ih => rw [rPairs];simp [ih]
def RowsPost (w : World) (g : Nat) (s : ByteArray) (q : List PairR × RS) (e : Ending) (w' : World) : Prop :=
 ∃ A c,e = .returned (.slice A q.1.length c) /\ NewSl 84 2 w.heap.size w' A q.1.length c (pcells q.1) /\ RdAt w' g s q.2 /\ Kept (fun k => k = g) w w'
theorem rows_any (w : World) (g : Nat) (s : ByteArray) (r : RS) (h : RdAt w g s r) (hs : s.size <= maxLen) :
  Calls Tryz.prog 103 #[.pointer (some ⟨g,0,none⟩)] w (RowsPost w g s (rPairs s (rNum s 32 r).1 (rNum s 32 r).2)) := by
 have hnum := num_any w g s r 32 h hs (by decide)
 have hn4 := rNum_le s 32 r
 have hgl := h.1.lt
 obtain ⟨q,hq⟩ : ∃ q,rNum s 32 r = q := ⟨_,rfl⟩
 rw [hq] at hnum hn4 ⊢
 obtain ⟨n,r3⟩ := q
 dsimp only at hnum hn4 ⊢
 have HNUM := hZ0 hnum;have HGL := hZ0 hgl
 clear hnum hgl h hq
 go_enter Tryz.func103,Tryz.ntmps103
 go_wp2_with fail
 refine HNUM.out.mono ?_
 rintro e w2 ⟨rfl,hr2,hk2⟩
 have HR2 := hZ0 hr2;have HK2 := hZ0 hk2
 clear hr2 hk2 HNUM
 go_wp2_with fail
 go_loopw [3,7] (fun v3 v7 wr => ∃ (i : Nat) (A : Option Addr) (c : Nat),i <= n /\ v7 = .int .i64 i /\ v3 = .slice A i c /\ NewSl 84 2 w.heap.size wr A i c (pcells (rPairs s i r3).1) /\ RdAt wr g s (rPairs s i r3).2 /\ Kept (fun k => k = g) w wr) (fun _ v7 _ => n - (intOf v7).toNat)
 case atStart => exact ⟨0,none,0,Nat.zero_le _,rfl,rfl,⟨⟨rfl,.inl ⟨rfl,rfl⟩⟩,fun k hk => by simp [Value.ownBlock] at hk⟩,HR2.out,HK2.out⟩
 case round =>
  obtain ⟨i,A,c,hi,rfl,rfl,hr,hrd,hk⟩ := hrel
  clear HR2 HK2
  by_cases hin : i < n
  ·have hstep : rPairs s (i + 1) r3 = ((rPairs s i r3).1 ++ [⟨(rText s 8 (rPairs s i r3).2).1,(rText s 8 (rText s 8 (rPairs s i r3).2).2).1⟩],(rText s 8 (rText s 8 (rPairs s i r3).2).2).2) := rfl
   obtain ⟨r4,hr4⟩ : ∃ r4,(rPairs s i r3).2 = r4 := ⟨_,rfl⟩
   obtain ⟨l0,hl0⟩ : ∃ l0,(rPairs s i r3).1 = l0 := ⟨_,rfl⟩
   rw [hr4] at hstep hrd
   rw [hl0] at hstep hr
   obtain ⟨p1,hp1⟩ : ∃ p,rText s 8 r4 = p := ⟨_,rfl⟩
   obtain ⟨k1,ra⟩ := p1
   rw [hp1] at hstep
   dsimp only at hstep
   obtain ⟨p2,hp2⟩ : ∃ p,rText s 8 ra = p := ⟨_,rfl⟩
   obtain ⟨v1,rb⟩ := p2
   rw [hp2] at hstep
   dsimp only at hstep
   have ht1 := text_any wr g s r4 8 hrd hs (by decide)
   rw [hp1] at ht1
   dsimp only at ht1
   have HT1 := hZ0 ht1;have HP2 := hZ0 hp2;have HST := hZ0 hstep;have HR := hZ0 hr;have HK := hZ0 hk
   clear ht1 hp1 hp2 hstep hr hk hr4 hl0 hrd
   go_wp2_with fail
   refine HT1.out.mono ?_
   rintro e w5 ⟨rfl,hr5,hk5⟩
   obtain ⟨W6,hW6⟩ : ∃ W6,w5.alloc (.cells #[.string k1,.string ⟨#[]⟩] 84) = W6 := ⟨_,rfl⟩
   have hk6 : Kept NoF w5 W6 := by rw [<- hW6];(repeat' (first | (with_reducible first | exact kR0 | apply kP0 | apply kN0 | apply kD0 | apply kA0) | (right;simp;done)))
   have hb6 : Has W6 w5.heap.size 84 #[.string k1,.string ⟨#[]⟩] := by rw [<- hW6];exact Has.new _ _ _
   obtain ⟨z,hz⟩ : ∃ z,w5.heap.size = z := ⟨_,rfl⟩
   rw [hz] at hb6
   have hgz : g < z := by have := HGL.out;have := HK.out.size;have := hk5.size;omega
   have ht2 := text_any W6 g s ra 8 (hr5.kept hk6 (fun z => z)) hs (by decide)
   rw [HP2.out] at ht2
   dsimp only at ht2
   have hwz : w5.heap.size <= z := by omega
   have HT2 := hZ0 ht2;have HB6 := hZ0 hb6;have HGZ := hZ0 hgz;have HK5 := hZ0 hk5;have HK6 := hZ0 hk6;have HWZ := hZ0 hwz
   have hr5' : NewSl 84 2 w.heap.size w5 A i c (pcells l0) := ⟨own_kept HR.out.1 hk5 (fun k hk e => by have h1 := HR.out.2 k hk;have h2 := HGL.out;omega),HR.out.2⟩
   have HR5 := hZ0 hr5'
   have HW6 := hZ0 hW6;have HZE := hZ0 hz
   clear ht2 hb6 hgz hk5 hk6 hr5 HT1 hwz hr5' hW6 hz
   go_wp2_with fail
   rw [HW6.out,HZE.out]
   refine HT2.out.mono ?_
   rintro e w7 ⟨rfl,hr7,hk7⟩
   have hz7 := HB6.out.kept hk7 (fun e => by have := HGZ.out;omega)
   have z1 := hz7.cell 1
   have zf1 := hz7.frozen 1
   have hz8 : Has (w7.setCell ⟨z,1,none⟩ (.string v1)) z 84 #[.string k1,.string v1] := Has.put_of hz7 rfl
   have zz0 := hz8.cell 0
   have zz1 := hz8.cell 1
   simp only [List.getElem?_toArray,List.getElem?_cons_zero,List.getElem?_cons_succ] at z1 zz0 zz1
   have hk58 : Kept (fun k => k = g) w5 (w7.setCell ⟨z,1,none⟩ (.string v1)) := (((Kept.up'' HK6.out).trans hk7 (fun _ h => .inl h))).put (.inr HWZ.out)
   have hr8 : RdAt (w7.setCell ⟨z,1,none⟩ (.string v1)) g s rb := hr7.kept ((Kept.refl (fun k => k = z) w7).put (.inl rfl)) (fun e => by have := HGZ.out;omega)
   have hrow8 : NewSl 84 2 w.heap.size (w7.setCell ⟨z,1,none⟩ (.string v1)) A i c (pcells l0) := ⟨own_kept HR5.out.1 hk58 (fun k hk e => by have h1 := HR5.out.2 k hk;have h2 := HGL.out;omega),HR5.out.2⟩
   have HK58 := hZ0 hk58;have HR8 := hZ0 hr8;have HROW := hZ0 hrow8
   have HM1 : Hid (i + 1 <= maxLen) := hZ0 (by unfold maxLen;omega)
   have HM2 : Hid ((i + 1) * 32 <= 140737488355328) := hZ0 (by omega)
   clear hk58 hr8 hrow8 hr7 hk7 hz7 hz8
   go_wp2_with (at_builtin;refine list_append_src elemPairM (.tmp 15) (.tmp 17) rfl rfl (Value.slice A i c) rfl (own_kept HROW.out.1 (F := NoF) (by (repeat' (first | (with_reducible first | exact kR0 | apply kP0 | apply kN0 | apply kD0 | apply kA0) | (right;simp;done)))) (fun _ _ x => x)) 1 rfl (Src.of_has (t := 84) (size := 2) (m := 1) (cs := #[.string k1,.string v1]) (by (repeat (first | with_reducible exact Has.new_at _ _ _ (by simp) | with_reducible apply Has.drew | with_reducible apply Has.drewN | with_reducible apply Has.alloc | (with_reducible apply Has.past <;> (try omega)) ))) rfl) (by intro u hu;simp at hu;rcases hu with rfl | rfl <;> rfl) HM1.out HM2.out ?_;intro A7 c7 w9 ho7 hg7 ha7;have HO7 := hZ0 ho7;have HG7 := hZ0 hg7;have HA7 := hZ0 ha7;clear ho7 hg7 ha7)
   go_roundw
   case measure => simp [intOf];omega
   case rel =>
    have hk89 : Kept (fun k => (Value.slice A i c).ownBlock = some k) (w7.setCell ⟨z,1,none⟩ (.string v1)) w9 := Kept.grownBy (by (repeat' (first | (with_reducible first | exact kR0 | apply kP0 | apply kN0 | apply kD0 | apply kA0) | (right;simp;done)))) HG7.out (fun k hk => .inl hk)
    have hB : w.heap.size <= (w7.setCell ⟨z,1,none⟩ (.string v1)).heap.size := by have := HK.out.size;have := HK5.out.size;have := HK58.out.size;omega
    refine ⟨i + 1,A7,c7,by omega,by go_num,rfl,?_,?_,?_⟩
    ·rw [HST.out]
     dsimp only
     rw [pcells_snocM]
     exact NewSl.snoc HROW.out (Nat.le_trans hB (by simp [size_alloc])) HO7.out HA7.out
    ·rw [HST.out]
     exact HR8.out.kept hk89 (fun e => by have h1 := HROW.out.2 g e;have h2 := HGL.out;omega)
    ·exact (HK.out.then (HK5.out.then HK58.out)).trans hk89 (fun k hk => .inr (HROW.out.2 k hk))
  ·obtain rfl : i = n := by omega
   have hlen := rPairs_len s r3 i
   go_wp2_with fail
   go_ret
   exact ⟨A,c,by rw [hlen];rfl,by rw [hlen];exact hr,hrd,hk⟩
end Mof
end Go.Proofs.YtgbigpdiacjbgaaGreat

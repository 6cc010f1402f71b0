/- Part 29 of what the proof needs. -/
import Derived.Test.YtgbigpdiacjbgaaGreatKO17
import Derived.Test.YtgbigpdiacjbgaaGreatKO27
set_option linter.unusedSimpArgs false
set_option linter.unusedVariables false
set_option maxHeartbeats 32000000
set_option maxRecDepth 100000
namespace Go.Proofs.YtgbigpdiacjbgaaGreat
open Go.RowKit
set_option maxRecDepth 100000
namespace Mof
open Plan Ops Ent Vn Msg Cof Wire
def inC (s : ByteArray) (r : RS) : ConfV × Int := if (rText s 65536 r).2.2 ≠ 0 then (zeroC,(rText s 65536 r).2.2) else ofC (rText s 65536 r).1
def inB' (s : ByteArray) (r : RS) : Batch × Int := if (rText s 65536 r).2.2 ≠ 0 then (zero,(rText s 65536 r).2.2) else ofB (rText s 65536 r).1
def inE (s : ByteArray) (r : RS) : (Batch × Int) × Int := if (rText s 65536 r).2.2 ≠ 0 then ((zero,0),(rText s 65536 r).2.2) else ofE (rText s 65536 r).1
def inCPost (w : World) (g : Nat) (s : ByteArray) (r : RS) (e : Ending) (w' : World) : Prop :=
 ∃ A c,e = .returned (.tuple #[cagg (inC s r).1.ep A (inC s r).1.ms.length c (inC s r).1.fl,.int .i64 (inC s r).2]) /\ Src w' 2 A ((inC s r).1.ms).length (mcells ((inC s r).1.ms)) /\ ((inC s r).1.ms).length <= c /\ c <= maxLen /\ (∀ ad,A = some ad -> w.heap.size <= ad.block) /\ RdAt w' g s (rText s 65536 r).2 /\ Kept (fun k => k = g) w w'
theorem inC_any (w : World) (g : Nat) (s : ByteArray) (r : RS) (h : RdAt w g s r) (hs : s.size <= maxLen) :
  Calls Tryz.prog 97 #[.pointer (some ⟨g,0,none⟩),.func (.func 98) #[] #[]] w (inCPost w g s r) := by
 obtain ⟨W0,hW0⟩ : ∃ W0,(w.alloc (.cells #[.int .i64 0,.slice none 0 0,.int .u64 0] 57)).alloc (.cells #[.int .i64 0,.slice none 0 0,.int .u64 0] 57) = W0 := ⟨_,rfl⟩
 have hk0 : Kept NoF w W0 := by rw [<- hW0];(repeat' (first | (with_reducible first | exact kR0 | apply kP0 | apply kN0 | apply kD0 | apply kA0) | (right;simp;done)))
 have hy0 : Has W0 w.heap.size 57 #[.int .i64 0,.slice none 0 0,.int .u64 0] := by rw [<- hW0];exact (Has.new _ _ _).alloc _
 have hz0 : Has W0 (w.heap.size + 1) 57 #[.int .i64 0,.slice none 0 0,.int .u64 0] := by rw [<- hW0];exact Has.new_at _ _ _ (by rw [size_alloc])
 have h0 := h.kept hk0 (fun z => z)
 have hgl := h.1.lt
 have htx := text_any W0 g s r 65536 h0 hs (by decide)
 have hsz : (rText s 65536 r).1.size <= maxLen := Nat.le_trans (text_size _ _ _) hs
 have hsp : inC s r = if (rText s 65536 r).2.2 ≠ 0 then (zeroC,(rText s 65536 r).2.2) else ofC (rText s 65536 r).1 := rfl
 unfold inCPost
 obtain ⟨p,hp⟩ : ∃ p,rText s 65536 r = p := ⟨_,rfl⟩
 rw [hp] at htx hsz hsp ⊢
 obtain ⟨tx,r2⟩ := p
 dsimp only at htx hsz hsp ⊢
 obtain ⟨y,hy⟩ : ∃ y,w.heap.size = y := ⟨_,rfl⟩
 rw [hy] at hy0 hz0
 have HTX := hZ0 htx;have HY0 := hZ0 hy0;have HZ0 := hZ0 hz0;have HK0 := hZ0 hk0;have HSP := hZ0 hsp;have HG := hZ0 (And.intro hgl hy)
 clear htx hy0 hz0 hk0 hsp hgl h0 h hp
 go_enter Tryz.func97,Tryz.ntmps97
 go_wp2_with fail
 clear hW0
 refine HTX.out.mono ?_
 rintro e w2 ⟨rfl,hr2,hk2⟩
 have hy2 := HY0.out.kept hk2 (fun e => by have := HG.out;omega)
 have hz2 := HZ0.out.kept hk2 (fun e => by have := HG.out;omega)
 have HY2 := hZ0 hy2;have HZ2 := hZ0 hz2;have HR2 := hZ0 hr2
 have HK2 := hZ0 (show Kept (fun k => k = g) w w2 from (HK0.out.mono (fun _ z => z.elim)).trans hk2 (fun _ z => .inl z))
 clear hy2 hz2 hr2 hk2 HTX HY0 HZ0 HK0
 go_wp2_with fail
 refine (err_any w2 g s r2 HR2.out).mono ?_
 rintro e w3 ⟨rfl,rfl⟩
 have hyw : w.heap.size <= y := by have := HG.out;omega
 have HYW := hZ0 hyw;clear hyw
 have hky : ∀ W,Kept (fun k => k = g) w W -> ∀ a0 a1 a2,Kept (fun k => k = g) w (((W.setCell ⟨y,0,none⟩ a0).setCell ⟨y,1,none⟩ a1).setCell ⟨y,2,none⟩ a2) := fun W hW a0 a1 a2 => (((hW.put (.inr HYW.out)).put (.inr HYW.out)).put (.inr HYW.out))
 have hkf : ∀ (W : World) a0 a1 a2,Kept (fun k => k = y) W (((W.setCell ⟨y,0,none⟩ a0).setCell ⟨y,1,none⟩ a1).setCell ⟨y,2,none⟩ a2) := fun W a0 a1 a2 => (Kept.put (F := fun k => k = y) (Kept.put (F := fun k => k = y) (Kept.put (F := fun k => k = y) (Kept.refl (fun k => k = y) W) (.inl rfl)) (.inl rfl)) (.inl rfl))
 have HKY := hZ0 hky;have HKF := hZ0 hkf
 clear hky hkf
 obtain ⟨at2,er⟩ := r2
 dsimp only at HSP ⊢
 by_cases he : er = 0
 rotate_left
 ·have he2 : (er != 0) = true := by simpa using he
  have hsp := HSP.out
  rw [if_pos he] at hsp
  have HSP2 := hZ0 hsp
  have HY := hZ0 HY2.out
  have y0 := HY.out.cell 0;have y1 := HY.out.cell 1;have y2 := HY.out.cell 2
  have yf0 := HY.out.frozen 0;have yf1 := HY.out.frozen 1;have yf2 := HY.out.frozen 2
  have z0 := HZ2.out.cell 0;have z1 := HZ2.out.cell 1;have z2 := HZ2.out.cell 2
  simp at y0 y1 y2 z0 z1 z2
  clear hsp he HSP
  go_wp2_with fail
  refine bodyPost_ret (v := .tuple #[.agg #[.int .i64 0,.slice none 0 0,.int .u64 0],.int .i64 er]) (by simp [results,Tryz.results97,go_sem,y0,y1,y2,yf0,yf1,yf2]) rfl ?_
  refine ⟨none,0,by rw [HSP2.out];rfl,by rw [HSP2.out];exact Src.nil _ _ _,by rw [HSP2.out];exact Nat.le_refl _,Nat.zero_le _,(fun ad e => by cases e),HR2.out.kept (HKF.out _ _ _ _) (fun e => by have := HG.out;omega),HKY.out _ HK2.out _ _ _⟩
 subst he
 have hsp := HSP.out
 rw [if_neg (by simp)] at hsp
 have HSP2 := hZ0 hsp
 clear hsp HSP
 have hcof := cof_any w2 tx hsz
 unfold ReadC at hcof
 rw [<- HSP2.out] at hcof
 obtain ⟨q,hq⟩ : ∃ q,inC s r = q := ⟨_,rfl⟩
 rw [hq] at hcof
 have HQ := hZ0 hq
 clear HSP2 hq
 obtain ⟨⟨ep,ms,fl⟩,er⟩ := q
 dsimp only at hcof
 obtain ⟨n,hn⟩ : ∃ n,ms.length = n := ⟨_,rfl⟩
 rw [hn] at hcof
 have HC := hZ0 hcof;have HN := hZ0 hn
 clear hcof hn hsz
 go_wp2_with fail
 refine HC.out.mono ?_
 rintro e w4 ⟨A,c,rfl,hsr,hc1,hc2,hnw,hk⟩
 have hy4 := HY2.out.kept hk (fun z => z)
 have y0 := hy4.cell 0;have y1 := hy4.cell 1;have y2 := hy4.cell 2
 have yf0 := hy4.frozen 0;have yf1 := hy4.frozen 1;have yf2 := hy4.frozen 2
 simp at y0 y1 y2
 have HK4 := hZ0 (HK2.out.trans hk (fun _ z => z.elim))
 have hny : ∀ ad,A = some ad -> ad.block ≠ y := fun ad e h => by have h1 := hnw ad e;have h2 := HY2.out.lt;omega
 have hnw2 : ∀ ad,A = some ad -> w.heap.size <= ad.block := fun ad e => by have h1 := hnw ad e;have h2 := HK2.out.size;omega
 have HS4 := hZ0 hsr;have HN4 := hZ0 (And.intro hc1 (And.intro hc2 (And.intro hnw2 hny)))
 have HR4 := hZ0 (HR2.out.kept hk (fun z => z))
 clear hk hsr hc1 hc2 hnw hy4 hny hnw2
 go_wp2_with fail
 refine bodyPost_ret (v := .tuple #[.agg #[.int .i64 ep,.slice A n c,.int .u64 fl],.int .i64 er]) (by simp [results,Tryz.results97,go_sem,y0,y1,y2,yf0,yf1,yf2]) rfl ?_
 rw [HQ.out]
 dsimp only
 rw [HN.out]
 refine ⟨A,c,rfl,?_,HN4.out.1,HN4.out.2.1,HN4.out.2.2.1,HR4.out.kept (HKF.out _ _ _ _) (fun e => by have := HG.out;omega),HKY.out _ HK4.out _ _ _⟩
 exact HS4.out.kept (HKF.out _ _ _ _) (fun ad e h => HN4.out.2.2.2 ad e h)
def inBPost (w : World) (g : Nat) (s : ByteArray) (r : RS) (e : Ending) (w' : World) : Prop :=
 ∃ A c,e = .returned (.tuple #[bagg (inB' s r).1 A c,.int .i64 (inB' s r).2]) /\ Src w' 3 A ((inB' s r).1.ops).length (cells ((inB' s r).1.ops)) /\ ((inB' s r).1.ops).length <= c /\ c <= maxLen /\ (∀ ad,A = some ad -> w.heap.size <= ad.block) /\ RdAt w' g s (rText s 65536 r).2 /\ Kept (fun k => k = g) w w'
theorem inB_any (w : World) (g : Nat) (s : ByteArray) (r : RS) (h : RdAt w g s r) (hs : s.size <= maxLen) :
  Calls Tryz.prog 99 #[.pointer (some ⟨g,0,none⟩),.func (.func 100) #[] #[]] w (inBPost w g s r) := by
 obtain ⟨W0,hW0⟩ : ∃ W0,(w.alloc (.cells #[.int .i64 0,.int .i64 0,.slice none 0 0] 59)).alloc (.cells #[.int .i64 0,.int .i64 0,.slice none 0 0] 59) = W0 := ⟨_,rfl⟩
 have hk0 : Kept NoF w W0 := by rw [<- hW0];(repeat' (first | (with_reducible first | exact kR0 | apply kP0 | apply kN0 | apply kD0 | apply kA0) | (right;simp;done)))
 have hy0 : Has W0 w.heap.size 59 #[.int .i64 0,.int .i64 0,.slice none 0 0] := by rw [<- hW0];exact (Has.new _ _ _).alloc _
 have hz0 : Has W0 (w.heap.size + 1) 59 #[.int .i64 0,.int .i64 0,.slice none 0 0] := by rw [<- hW0];exact Has.new_at _ _ _ (by rw [size_alloc])
 have h0 := h.kept hk0 (fun z => z)
 have hgl := h.1.lt
 have htx := text_any W0 g s r 65536 h0 hs (by decide)
 have hsz : (rText s 65536 r).1.size <= maxLen := Nat.le_trans (text_size _ _ _) hs
 have hsp : inB' s r = if (rText s 65536 r).2.2 ≠ 0 then (zero,(rText s 65536 r).2.2) else ofB (rText s 65536 r).1 := rfl
 unfold inBPost
 obtain ⟨p,hp⟩ : ∃ p,rText s 65536 r = p := ⟨_,rfl⟩
 rw [hp] at htx hsz hsp ⊢
 obtain ⟨tx,r2⟩ := p
 dsimp only at htx hsz hsp ⊢
 obtain ⟨y,hy⟩ : ∃ y,w.heap.size = y := ⟨_,rfl⟩
 rw [hy] at hy0 hz0
 have HTX := hZ0 htx;have HY0 := hZ0 hy0;have HZ0 := hZ0 hz0;have HK0 := hZ0 hk0;have HSP := hZ0 hsp;have HG := hZ0 (And.intro hgl hy)
 clear htx hy0 hz0 hk0 hsp hgl h0 h hp
 go_enter Tryz.func99,Tryz.ntmps99
 go_wp2_with fail
 clear hW0
 refine HTX.out.mono ?_
 rintro e w2 ⟨rfl,hr2,hk2⟩
 have hy2 := HY0.out.kept hk2 (fun e => by have := HG.out;omega)
 have hz2 := HZ0.out.kept hk2 (fun e => by have := HG.out;omega)
 have HY2 := hZ0 hy2;have HZ2 := hZ0 hz2;have HR2 := hZ0 hr2
 have HK2 := hZ0 (show Kept (fun k => k = g) w w2 from (HK0.out.mono (fun _ z => z.elim)).trans hk2 (fun _ z => .inl z))
 clear hy2 hz2 hr2 hk2 HTX HY0 HZ0 HK0
 go_wp2_with fail
 refine (err_any w2 g s r2 HR2.out).mono ?_
 rintro e w3 ⟨rfl,rfl⟩
 have hyw : w.heap.size <= y := by have := HG.out;omega
 have HYW := hZ0 hyw;clear hyw
 have hky : ∀ W,Kept (fun k => k = g) w W -> ∀ a0 a1 a2,Kept (fun k => k = g) w (((W.setCell ⟨y,0,none⟩ a0).setCell ⟨y,1,none⟩ a1).setCell ⟨y,2,none⟩ a2) := fun W hW a0 a1 a2 => (((hW.put (.inr HYW.out)).put (.inr HYW.out)).put (.inr HYW.out))
 have hkf : ∀ (W : World) a0 a1 a2,Kept (fun k => k = y) W (((W.setCell ⟨y,0,none⟩ a0).setCell ⟨y,1,none⟩ a1).setCell ⟨y,2,none⟩ a2) := fun W a0 a1 a2 => (Kept.put (F := fun k => k = y) (Kept.put (F := fun k => k = y) (Kept.put (F := fun k => k = y) (Kept.refl (fun k => k = y) W) (.inl rfl)) (.inl rfl)) (.inl rfl))
 have HKY := hZ0 hky;have HKF := hZ0 hkf
 clear hky hkf
 obtain ⟨at2,er⟩ := r2
 dsimp only at HSP ⊢
 by_cases he : er = 0
 rotate_left
 ·have he2 : (er != 0) = true := by simpa using he
  have hsp := HSP.out
  rw [if_pos he] at hsp
  have HSP2 := hZ0 hsp
  have HY := hZ0 HY2.out
  have y0 := HY.out.cell 0;have y1 := HY.out.cell 1;have y2 := HY.out.cell 2
  have yf0 := HY.out.frozen 0;have yf1 := HY.out.frozen 1;have yf2 := HY.out.frozen 2
  have z0 := HZ2.out.cell 0;have z1 := HZ2.out.cell 1;have z2 := HZ2.out.cell 2
  simp at y0 y1 y2 z0 z1 z2
  clear hsp he HSP
  go_wp2_with fail
  refine bodyPost_ret (v := .tuple #[.agg #[.int .i64 0,.int .i64 0,.slice none 0 0],.int .i64 er]) (by simp [results,Tryz.results99,go_sem,y0,y1,y2,yf0,yf1,yf2]) rfl ?_
  refine ⟨none,0,by rw [HSP2.out];rfl,by rw [HSP2.out];exact Src.nil _ _ _,by rw [HSP2.out];exact Nat.le_refl _,Nat.zero_le _,(fun ad e => by cases e),HR2.out.kept (HKF.out _ _ _ _) (fun e => by have := HG.out;omega),HKY.out _ HK2.out _ _ _⟩
 subst he
 have hsp := HSP.out
 rw [if_neg (by simp)] at hsp
 have HSP2 := hZ0 hsp
 clear hsp HSP
 have hcof := oof_new w2 tx hsz
 unfold ReadN at hcof
 rw [<- HSP2.out] at hcof
 obtain ⟨q,hq⟩ : ∃ q,inB' s r = q := ⟨_,rfl⟩
 rw [hq] at hcof
 have HQ := hZ0 hq
 clear HSP2 hq
 obtain ⟨⟨cl,rq,ops⟩,er⟩ := q
 unfold bagg at hcof
 dsimp only at hcof
 obtain ⟨n,hn⟩ : ∃ n,ops.length = n := ⟨_,rfl⟩
 rw [hn] at hcof
 have HC := hZ0 hcof;have HN := hZ0 hn
 clear hcof hn hsz
 go_wp2_with fail
 refine HC.out.mono ?_
 rintro e w4 ⟨A,c,rfl,hsr,hc1,hc2,hnw,hk⟩
 have hy4 := HY2.out.kept hk (fun z => z)
 have y0 := hy4.cell 0;have y1 := hy4.cell 1;have y2 := hy4.cell 2
 have yf0 := hy4.frozen 0;have yf1 := hy4.frozen 1;have yf2 := hy4.frozen 2
 simp at y0 y1 y2
 have HK4 := hZ0 (HK2.out.trans hk (fun _ z => z.elim))
 have hny : ∀ ad,A = some ad -> ad.block ≠ y := fun ad e h => by have h1 := hnw ad e;have h2 := HY2.out.lt;omega
 have hnw2 : ∀ ad,A = some ad -> w.heap.size <= ad.block := fun ad e => by have h1 := hnw ad e;have h2 := HK2.out.size;omega
 have HS4 := hZ0 hsr;have HN4 := hZ0 (And.intro hc1 (And.intro hc2 (And.intro hnw2 hny)))
 have HR4 := hZ0 (HR2.out.kept hk (fun z => z))
 clear hk hsr hc1 hc2 hnw hy4 hny hnw2
 go_wp2_with fail
 refine bodyPost_ret (v := .tuple #[.agg #[.int .i64 cl,.int .i64 rq,.slice A n c],.int .i64 er]) (by simp [results,Tryz.results99,go_sem,y0,y1,y2,yf0,yf1,yf2]) rfl ?_
 rw [HQ.out]
 unfold bagg
 dsimp only
 rw [HN.out]
 refine ⟨A,c,rfl,?_,HN4.out.1,HN4.out.2.1,HN4.out.2.2.1,HR4.out.kept (HKF.out _ _ _ _) (fun e => by have := HG.out;omega),HKY.out _ HK4.out _ _ _⟩
 exact HS4.out.kept (HKF.out _ _ _ _) (fun ad e h => HN4.out.2.2.2 ad e h)
def inEPost (w : World) (g : Nat) (s : ByteArray) (r : RS) (e : Ending) (w' : World) : Prop :=
 ∃ A c,e = .returned (.tuple #[Cof.eagg (inE s r).1.1 A c (inE s r).1.2,.int .i64 (inE s r).2]) /\ Src w' 3 A ((inE s r).1.1.ops).length (cells ((inE s r).1.1.ops)) /\ ((inE s r).1.1.ops).length <= c /\ c <= maxLen /\ (∀ ad,A = some ad -> w.heap.size <= ad.block) /\ RdAt w' g s (rText s 65536 r).2 /\ Kept (fun k => k = g) w w'
theorem inE_any (w : World) (g : Nat) (s : ByteArray) (r : RS) (h : RdAt w g s r) (hs : s.size <= maxLen) :
  Calls Tryz.prog 140 #[.pointer (some ⟨g,0,none⟩),.func (.func 141) #[] #[]] w (inEPost w g s r) := by
 obtain ⟨W0,hW0⟩ : ∃ W0,(w.alloc (.cells #[.int .i64 0,.int .i64 0,.slice none 0 0,.int .u64 0] 183)).alloc (.cells #[.int .i64 0,.int .i64 0,.slice none 0 0,.int .u64 0] 183) = W0 := ⟨_,rfl⟩
 have hk0 : Kept NoF w W0 := by rw [<- hW0];(repeat' (first | (with_reducible first | exact kR0 | apply kP0 | apply kN0 | apply kD0 | apply kA0) | (right;simp;done)))
 have hy0 : Has W0 w.heap.size 183 #[.int .i64 0,.int .i64 0,.slice none 0 0,.int .u64 0] := by rw [<- hW0];exact (Has.new _ _ _).alloc _
 have hz0 : Has W0 (w.heap.size + 1) 183 #[.int .i64 0,.int .i64 0,.slice none 0 0,.int .u64 0] := by rw [<- hW0];exact Has.new_at _ _ _ (by rw [size_alloc])
 have h0 := h.kept hk0 (fun z => z)
 have hgl := h.1.lt
 have htx := text_any W0 g s r 65536 h0 hs (by decide)
 have hsz : (rText s 65536 r).1.size <= maxLen := Nat.le_trans (text_size _ _ _) hs
 have hsp : inE s r = if (rText s 65536 r).2.2 ≠ 0 then ((zero,0),(rText s 65536 r).2.2) else ofE (rText s 65536 r).1 := rfl
 unfold inEPost
 obtain ⟨p,hp⟩ : ∃ p,rText s 65536 r = p := ⟨_,rfl⟩
 rw [hp] at htx hsz hsp ⊢
 obtain ⟨tx,r2⟩ := p
 dsimp only at htx hsz hsp ⊢
 obtain ⟨y,hy⟩ : ∃ y,w.heap.size = y := ⟨_,rfl⟩
 rw [hy] at hy0 hz0
 have HTX := hZ0 htx;have HY0 := hZ0 hy0;have HZ0 := hZ0 hz0;have HK0 := hZ0 hk0;have HSP := hZ0 hsp;have HG := hZ0 (And.intro hgl hy)
 clear htx hy0 hz0 hk0 hsp hgl h0 h hp
 go_enter Tryz.func140,Tryz.ntmps140
 go_wp2_with fail
 clear hW0
 refine HTX.out.mono ?_
 rintro e w2 ⟨rfl,hr2,hk2⟩
 have hy2 := HY0.out.kept hk2 (fun e => by have := HG.out;omega)
 have hz2 := HZ0.out.kept hk2 (fun e => by have := HG.out;omega)
 have HY2 := hZ0 hy2;have HZ2 := hZ0 hz2;have HR2 := hZ0 hr2
 have HK2 := hZ0 (show Kept (fun k => k = g) w w2 from (HK0.out.mono (fun _ z => z.elim)).trans hk2 (fun _ z => .inl z))
 clear hy2 hz2 hr2 hk2 HTX HY0 HZ0 HK0
 go_wp2_with fail
 refine (err_any w2 g s r2 HR2.out).mono ?_
 rintro e w3 ⟨rfl,rfl⟩
 have hyw : w.heap.size <= y := by have := HG.out;omega
 have HYW := hZ0 hyw;clear hyw
 have hky : ∀ W,Kept (fun k => k = g) w W -> ∀ a0 a1 a2 a3,Kept (fun k => k = g) w ((((W.setCell ⟨y,0,none⟩ a0).setCell ⟨y,1,none⟩ a1).setCell ⟨y,2,none⟩ a2).setCell ⟨y,3,none⟩ a3) := fun W hW a0 a1 a2 a3 => ((((hW.put (.inr HYW.out)).put (.inr HYW.out)).put (.inr HYW.out)).put (.inr HYW.out))
 have hkf : ∀ (W : World) a0 a1 a2 a3,Kept (fun k => k = y) W ((((W.setCell ⟨y,0,none⟩ a0).setCell ⟨y,1,none⟩ a1).setCell ⟨y,2,none⟩ a2).setCell ⟨y,3,none⟩ a3) := fun W a0 a1 a2 a3 => (Kept.put (F := fun k => k = y) (Kept.put (F := fun k => k = y) (Kept.put (F := fun k => k = y) (Kept.put (F := fun k => k = y) (Kept.refl (fun k => k = y) W) (.inl rfl)) (.inl rfl)) (.inl rfl)) (.inl rfl))
 have HKY := hZ0 hky;have HKF := hZ0 hkf
 clear hky hkf
 obtain ⟨at2,er⟩ := r2
 dsimp only at HSP ⊢
 by_cases he : er = 0
 rotate_left
 ·have he2 : (er != 0) = true := by simpa using he
  have hsp := HSP.out
  rw [if_pos he] at hsp
  have HSP2 := hZ0 hsp
  have HY := hZ0 HY2.out
  have y0 := HY.out.cell 0;have y1 := HY.out.cell 1;have y2 := HY.out.cell 2;have y3 := HY.out.cell 3
  have yf0 := HY.out.frozen 0;have yf1 := HY.out.frozen 1;have yf2 := HY.out.frozen 2;have yf3 := HY.out.frozen 3
  have z0 := HZ2.out.cell 0;have z1 := HZ2.out.cell 1;have z2 := HZ2.out.cell 2;have z3 := HZ2.out.cell 3
  simp at y0 y1 y2 y3 z0 z1 z2 z3
  clear hsp he HSP
  go_wp2_with fail
  refine bodyPost_ret (v := .tuple #[.agg #[.int .i64 0,.int .i64 0,.slice none 0 0,.int .u64 0],.int .i64 er]) (by simp [results,Tryz.results140,go_sem,y0,y1,y2,y3,yf0,yf1,yf2,yf3]) rfl ?_
  refine ⟨none,0,by rw [HSP2.out];rfl,by rw [HSP2.out];exact Src.nil _ _ _,by rw [HSP2.out];exact Nat.le_refl _,Nat.zero_le _,(fun ad e => by cases e),HR2.out.kept (HKF.out _ _ _ _ _) (fun e => by have := HG.out;omega),HKY.out _ HK2.out _ _ _ _⟩
 subst he
 have hsp := HSP.out
 rw [if_neg (by simp)] at hsp
 have HSP2 := hZ0 hsp
 clear hsp HSP
 have hcof := iof_any w2 tx hsz
 unfold ReadE at hcof
 rw [<- HSP2.out] at hcof
 obtain ⟨q,hq⟩ : ∃ q,inE s r = q := ⟨_,rfl⟩
 rw [hq] at hcof
 have HQ := hZ0 hq
 clear HSP2 hq
 obtain ⟨⟨⟨cl,rq,ops⟩,ts⟩,er⟩ := q
 unfold Cof.eagg at hcof
 dsimp only at hcof
 obtain ⟨n,hn⟩ : ∃ n,ops.length = n := ⟨_,rfl⟩
 rw [hn] at hcof
 have HC := hZ0 hcof;have HN := hZ0 hn
 clear hcof hn hsz
 go_wp2_with fail
 refine HC.out.mono ?_
 rintro e w4 ⟨A,c,rfl,hsr,hc1,hc2,hnw,hk⟩
 have hy4 := HY2.out.kept hk (fun z => z)
 have y0 := hy4.cell 0;have y1 := hy4.cell 1;have y2 := hy4.cell 2;have y3 := hy4.cell 3
 have yf0 := hy4.frozen 0;have yf1 := hy4.frozen 1;have yf2 := hy4.frozen 2;have yf3 := hy4.frozen 3
 simp at y0 y1 y2 y3
 have HK4 := hZ0 (HK2.out.trans hk (fun _ z => z.elim))
 have hny : ∀ ad,A = some ad -> ad.block ≠ y := fun ad e h => by have h1 := hnw ad e;have h2 := HY2.out.lt;omega
 have hnw2 : ∀ ad,A = some ad -> w.heap.size <= ad.block := fun ad e => by have h1 := hnw ad e;have h2 := HK2.out.size;omega
 have HS4 := hZ0 hsr;have HN4 := hZ0 (And.intro hc1 (And.intro hc2 (And.intro hnw2 hny)))
 have HR4 := hZ0 (HR2.out.kept hk (fun z => z))
 clear hk hsr hc1 hc2 hnw hy4 hny hnw2
 go_wp2_with fail
 refine bodyPost_ret (v := .tuple #[.agg #[.int .i64 cl,.int .i64 rq,.slice A n c,.int .u64 ts],.int .i64 er]) (by simp [results,Tryz.results140,go_sem,y0,y1,y2,y3,yf0,yf1,yf2,yf3]) rfl ?_
 rw [HQ.out]
 unfold Cof.eagg
 dsimp only
 rw [HN.out]
 refine ⟨A,c,rfl,?_,HN4.out.1,HN4.out.2.1,HN4.out.2.2.1,HR4.out.kept (HKF.out _ _ _ _ _) (fun e => by have := HG.out;omega),HKY.out _ HK4.out _ _ _ _⟩
 exact HS4.out.kept (HKF.out _ _ _ _ _) (fun ad e h => HN4.out.2.2.2 ad e h)
end Mof
end Go.Proofs.YtgbigpdiacjbgaaGreat

/- Part 13 of what the proof needs. -/
import Derived.Test.YtgffjliedjhbaaaGreatZS11
import Derived.StillTailTactics
import Derived.WalkSpells
import Derived.BigRegion
import Derived.Deep.RegionLaw
set_option linter.unusedSimpArgs false
set_option linter.unusedVariables false
set_option maxHeartbeats 32000000
set_option maxRecDepth 100000
namespace Go.Proofs.YtgffjliedjhbaaaGreat
open Go.RowKit
set_option maxRecDepth 100000
namespace Mst
open Plan Vn
theorem elemInt : Elem Tryz.prog 110 3 1 8 := by
 obtain ⟨i0,hi,hz0,hz1,hz2⟩ := info_parts (show (Tryz.prog.info? 3).map (fun i => (i.zero,i.size,i.bytes)) = some (some (.int .i64 0),1,8) by kernel_rfl)
 exact ⟨Tryz.underlying110,⟨i0,_,hi,hz0,hz1,hz2,rfl⟩,by decide⟩
theorem one_ints (l : List Int) : ∀ u ∈ ints l,u.oneCell' = true := by
 intro u hu
 obtain ⟨x,_,hx⟩ := List.mem_map.1 hu
 rw [<- hx];rfl
def NewInt (w : World) (l : List Int) (e : Ending) (w' : World) : Prop :=
 ∃ A c,e = .returned (.slice A l.length c) /\ NewSl 3 1 w.heap.size w' A l.length c (ints l) /\ Kept NoF w w'
theorem cloneInt_any (w : World) (A : Option Addr) (c : Nat) (l : List Int) (hl : Src w 1 A l.length (ints l)) (hlen : l.length <= 1000000) :
  Calls Tryz.prog 164 #[.slice A l.length c] w (NewInt w l) := by
 have hnil : ∀ W n' c',(binOp .eql 110 (.slice A l.length c) (.slice none n' c')).run Tryz.prog W = .ok (.bool A.isNone) W := fun W n' c' => Lib.run_eql_slice_nil W _ _ A _ _ _ _ Tryz.underlying110
 cases A with
 | none =>
  have h0 : l.length = 0 := by
   rcases Nat.eq_zero_or_pos l.length with h | h
   ·exact h
   ·obtain ⟨ad,h1,_⟩ := hl.2 h;cases h1
  obtain rfl : l = [] := List.eq_nil_of_length_eq_zero h0
  clear h0 hl
  simp only [Option.isNone_none,List.length_nil] at hnil ⊢
  go_enter Tryz.func164,Tryz.ntmps164
  go_wp2
  go_ret
  exact ⟨none,0,rfl,⟨⟨rfl,.inl ⟨rfl,rfl⟩⟩,fun k hk => by cases hk⟩,Kept.refl _ _⟩
 | some ad =>
  simp only [Option.isNone_some] at hnil
  have hm1 : 0 + l.length <= maxLen := by unfold maxLen;omega
  have hm2 : (0 + l.length) * 8 <= 140737488355328 := by omega
  have HM1 := hZ0 hm1;clear hm1
  have HM2 := hZ0 hm2;clear hm2
  have HL := hZ0 hl;clear hl
  go_enter Tryz.func164,Tryz.ntmps164
  go_wp2_with (at_builtin;refine list_append_src elemInt (.tmp 5) (.tmp 6) rfl rfl (Value.slice (some ⟨w.heap.size,0,none⟩) 0 0) rfl (own_empty (Has.new w 3 #[]) rfl) c rfl (HL.out.kept ((Kept.refl NoF w).alloc _) (fun _ _ x => x)) (one_ints l) HM1.out HM2.out ?_;intro A1 c1 w1 ho1 hg1 ha1;simp only [Nat.zero_add,List.nil_append] at ho1 ha1;have hk1 : Kept NoF w w1 := ((Kept.refl NoF w).alloc _).grown hg1 (fun k hk => .inr (new_row hk (Nat.le_refl _)));have HO1 := hZ0 (And.intro ho1 (And.intro ha1 hk1));clear ho1 hg1 ha1 hk1)
  go_ret
  refine ⟨A1,c1,by simp,⟨HO1.out.1,fun k hk => ?_⟩,HO1.out.2.2⟩
  rcases HO1.out.2.1 with e | e
  ·exact new_row (e.symm.trans hk) (Nat.le_refl _)
  ·rw [hk] at e
   injection e with e
   simp at e
   omega
theorem elemMem : Elem Tryz.prog 51 57 2 16 := by
 obtain ⟨i0,hi,hz0,hz1,hz2⟩ := info_parts (show (Tryz.prog.info? 57).map (fun i => (i.zero,i.size,i.bytes)) = some (some (.agg #[.int .i64 0,.int .i64 0]),2,16) by kernel_rfl)
 exact ⟨Tryz.underlying51,⟨i0,_,hi,hz0,hz1,hz2,rfl⟩,by decide⟩
theorem one_mcells (l : List Mem) : ∀ u ∈ mcells l,u.oneCell' = true := by
 intro u hu
 obtain ⟨x,_,hx⟩ := List.mem_flatMap.1 hu
 have h2 : u = .int .i64 x.1 \/ u = .int .i64 x.2 := by simpa [mcell] using hx
 rcases h2 with rfl | rfl <;> rfl
def NewMem (w : World) (l : List Mem) (e : Ending) (w' : World) : Prop :=
 ∃ A c,e = .returned (.slice A l.length c) /\ NewSl 57 2 w.heap.size w' A l.length c (mcells l) /\ Kept NoF w w'
theorem cloneMem_any (w : World) (A : Option Addr) (c : Nat) (l : List Mem) (hl : Src w 2 A l.length (mcells l)) (hlen : l.length <= 1000000) :
  Calls Tryz.prog 128 #[.slice A l.length c] w (NewMem w l) := by
 have hnil : ∀ W n' c',(binOp .eql 51 (.slice A l.length c) (.slice none n' c')).run Tryz.prog W = .ok (.bool A.isNone) W := fun W n' c' => Lib.run_eql_slice_nil W _ _ A _ _ _ _ Tryz.underlying51
 cases A with
 | none =>
  have h0 : l.length = 0 := by
   rcases Nat.eq_zero_or_pos l.length with h | h
   ·exact h
   ·obtain ⟨ad,h1,_⟩ := hl.2 h;cases h1
  obtain rfl : l = [] := List.eq_nil_of_length_eq_zero h0
  clear h0 hl
  simp only [Option.isNone_none,List.length_nil] at hnil ⊢
  go_enter Tryz.func128,Tryz.ntmps128
  go_wp2
  go_ret
  exact ⟨none,0,rfl,⟨⟨rfl,.inl ⟨rfl,rfl⟩⟩,fun k hk => by cases hk⟩,Kept.refl _ _⟩
 | some ad =>
  simp only [Option.isNone_some] at hnil
  have hm1 : 0 + l.length <= maxLen := by unfold maxLen;omega
  have hm2 : (0 + l.length) * 16 <= 140737488355328 := by omega
  have HM1 := hZ0 hm1;clear hm1
  have HM2 := hZ0 hm2;clear hm2
  have HL := hZ0 hl;clear hl
  go_enter Tryz.func128,Tryz.ntmps128
  go_wp2_with (at_builtin;refine list_append_src elemMem (.tmp 5) (.tmp 6) rfl rfl (Value.slice (some ⟨w.heap.size,0,none⟩) 0 0) rfl (own_empty (Has.new w 57 #[]) rfl) c rfl (HL.out.kept ((Kept.refl NoF w).alloc _) (fun _ _ x => x)) (one_mcells l) HM1.out HM2.out ?_;intro A1 c1 w1 ho1 hg1 ha1;simp only [Nat.zero_add,List.nil_append] at ho1 ha1;have hk1 : Kept NoF w w1 := ((Kept.refl NoF w).alloc _).grown hg1 (fun k hk => .inr (new_row hk (Nat.le_refl _)));have HO1 := hZ0 (And.intro ho1 (And.intro ha1 hk1));clear ho1 hg1 ha1 hk1)
  go_ret
  refine ⟨A1,c1,by simp,⟨HO1.out.1,fun k hk => ?_⟩,HO1.out.2.2⟩
  rcases HO1.out.2.1 with e | e
  ·exact new_row (e.symm.trans hk) (Nat.le_refl _)
  ·rw [hk] at e
   injection e with e
   simp at e
   omega
theorem elemPin : Elem Tryz.prog 179 112 3 24 := by
 obtain ⟨i0,hi,hz0,hz1,hz2⟩ := info_parts (show (Tryz.prog.info? 112).map (fun i => (i.zero,i.size,i.bytes)) = some (some (.agg #[.int .i64 0,.int .u64 0,.int .i64 0]),3,24) by kernel_rfl)
 exact ⟨Tryz.underlying179,⟨i0,_,hi,hz0,hz1,hz2,rfl⟩,by decide⟩
theorem one_pcells (l : List PinR) : ∀ u ∈ pcells l,u.oneCell' = true := by
 intro u hu
 obtain ⟨x,_,hx⟩ := List.mem_flatMap.1 hu
 have h2 : u = .int .i64 x.id \/ u = .int .u64 x.at' \/ u = .int .i64 x.left := by simpa [pcell] using hx
 rcases h2 with rfl | rfl | rfl <;> rfl
def NewPin (w : World) (l : List PinR) (e : Ending) (w' : World) : Prop :=
 ∃ A c,e = .returned (.slice A l.length c) /\ NewSl 112 3 w.heap.size w' A l.length c (pcells l) /\ Kept NoF w w'
theorem clonePin_any (w : World) (A : Option Addr) (c : Nat) (l : List PinR) (hl : Src w 3 A l.length (pcells l)) (hlen : l.length <= 1000000) :
  Calls Tryz.prog 205 #[.slice A l.length c] w (NewPin w l) := by
 have hnil : ∀ W n' c',(binOp .eql 179 (.slice A l.length c) (.slice none n' c')).run Tryz.prog W = .ok (.bool A.isNone) W := fun W n' c' => Lib.run_eql_slice_nil W _ _ A _ _ _ _ Tryz.underlying179
 cases A with
 | none =>
  have h0 : l.length = 0 := by
   rcases Nat.eq_zero_or_pos l.length with h | h
   ·exact h
   ·obtain ⟨ad,h1,_⟩ := hl.2 h;cases h1
  obtain rfl : l = [] := List.eq_nil_of_length_eq_zero h0
  clear h0 hl
  simp only [Option.isNone_none,List.length_nil] at hnil ⊢
  go_enter Tryz.func205,Tryz.ntmps205
  go_wp2
  go_ret
  exact ⟨none,0,rfl,⟨⟨rfl,.inl ⟨rfl,rfl⟩⟩,fun k hk => by cases hk⟩,Kept.refl _ _⟩
 | some ad =>
  simp only [Option.isNone_some] at hnil
  have hm1 : 0 + l.length <= maxLen := by unfold maxLen;omega
  have hm2 : (0 + l.length) * 24 <= 140737488355328 := by omega
  have HM1 := hZ0 hm1;clear hm1
  have HM2 := hZ0 hm2;clear hm2
  have HL := hZ0 hl;clear hl
  go_enter Tryz.func205,Tryz.ntmps205
  go_wp2_with (at_builtin;refine list_append_src elemPin (.tmp 5) (.tmp 6) rfl rfl (Value.slice (some ⟨w.heap.size,0,none⟩) 0 0) rfl (own_empty (Has.new w 112 #[]) rfl) c rfl (HL.out.kept ((Kept.refl NoF w).alloc _) (fun _ _ x => x)) (one_pcells l) HM1.out HM2.out ?_;intro A1 c1 w1 ho1 hg1 ha1;simp only [Nat.zero_add,List.nil_append] at ho1 ha1;have hk1 : Kept NoF w w1 := ((Kept.refl NoF w).alloc _).grown hg1 (fun k hk => .inr (new_row hk (Nat.le_refl _)));have HO1 := hZ0 (And.intro ho1 (And.intro ha1 hk1));clear ho1 hg1 ha1 hk1)
  go_ret
  refine ⟨A1,c1,by simp,⟨HO1.out.1,fun k hk => ?_⟩,HO1.out.2.2⟩
  rcases HO1.out.2.1 with e | e
  ·exact new_row (e.symm.trans hk) (Nat.le_refl _)
  ·rw [hk] at e
   injection e with e
   simp at e
   omega
theorem whose_any (w : World) (id : Int) : Calls Tryz.prog 203 #[.int .i64 id] w fun e w' => e = .returned (.func (.func 243) #[] #[.pointer (some ⟨w.heap.size,0,none⟩)]) /\ w' = w.alloc (.cells #[.int .i64 id] 3) := by
 go_enter Tryz.func203,Tryz.ntmps203
 go_wp2
 go_ret
 exact ⟨rfl,rfl⟩
theorem whose1_any (w : World) (x : PinR) (b : Nat) (id : Int) (hb : Has w b 3 #[.int .i64 id]) :
  Calls Tryz.prog 243 #[pagg x,.pointer (some ⟨b,0,none⟩)] w fun e w' => e = .returned (.bool (decide (x.id = id))) /\ Kept NoF w w' := by
 have c0 := (hb.alloc (.cells #[.int .i64 x.id,.int .u64 x.at',.int .i64 x.left] 112)).cell 0
 simp only [List.getElem?_toArray,List.getElem?_cons_zero,List.getElem?_cons_succ] at c0
 clear hb
 go_enter Tryz.func243,Tryz.ntmps243
 go_wp2
 go_ret
 exact ⟨rfl,by (repeat' (first | (with_reducible first | exact kR0 | apply kP0 | apply kN0 | apply kD0 | apply kA0) | (right;simp;done)))⟩
def pinAt (l : List PinR) (id : Int) : Int := idxW (fun x => decide (x.id = id)) l 0
theorem find_any (w : World) (A : Option Addr) (c : Nat) (l : List PinR) (b : Nat) (id : Int) (hb : Has w b 3 #[.int .i64 id]) (hl : Src w 3 A l.length (pcells l)) (hlen : l.length <= 1000000) :
  Calls Tryz.prog 202 #[.slice A l.length c,.func (.func 243) #[] #[.pointer (some ⟨b,0,none⟩)]] w fun e w' => e = .returned (.tuple #[.int .i64 (pinAt l id),.bool (decide (0 <= pinAt l id))]) /\ Kept NoF w w' := by
 have h := idxPin_any w A c l 243 (.pointer (some ⟨b,0,none⟩)) (fun x => decide (x.id = id)) (fun args W => enters Tryz.func243 (by kernel_rfl) rfl args W) hl hlen (fun W x hW _ => whose1_any W x b id (hb.kept hW (fun z => z)))
 have hr : idxW (fun x => decide (x.id = id)) l 0 = pinAt l id := rfl
 rw [hr] at h
 obtain ⟨r,hr⟩ : ∃ r,pinAt l id = r := ⟨_,rfl⟩
 rw [hr] at h ⊢
 have H := hZ0 h;clear h hr hl hb
 go_enter Tryz.func202,Tryz.ntmps202
 go_wp2_with fail
 refine H.out.mono ?_
 rintro e w2 ⟨rfl,hk⟩
 have HK := hZ0 hk;clear hk
 go_wp2
 go_ret2
 exact ⟨by simp,HK.out⟩
end Mst
namespace Mst
open Plan Vn
theorem own_set {w : World} {base : Nat} {e : TypeId} {size c g n j : Nat} {xs : List Value} {u : Value} (h : w.ownsRow base e size (.slice (some ⟨g,0,none⟩) n c) n xs) : (w.setCell ⟨g,j,none⟩ u).ownsRow base e size (.slice (some ⟨g,0,none⟩) n c) n (xs.set j u) := by
 refine ⟨by rw [List.length_set];exact h.1,?_⟩
 rcases h.2 with ⟨hv,_⟩ | ⟨g',cap,cur,hv,hb,hg,hn,hm,hs,htk⟩
 ·cases hv
 ·injection hv with h1 h2 h3
  injection h1 with h1
  injection h1 with h1
  subst h1
  subst h3
  refine .inr ⟨g,c,cur.setIfInBounds j u,rfl,hb,Has.put (show Has w g e cur from hg) j u,hn,hm,by simpa using hs,?_⟩
  rw [Array.toList_setIfInBounds,List.take_set,htk]
theorem idxW_found {α : Type} (p : α -> Bool) (l : List α) (i : Nat) : (idxW p l i = -1 /\ ∀ x ∈ l,p x = false) \/ ∃ k x,idxW p l i = ((i + k : Nat) : Int) /\ l[k]? = some x /\ p x = true := by
 induction l generalizing i with
 | nil => exact .inl ⟨rfl,fun _ h => by cases h⟩
 | cons a l ih =>
  rw [idxW]
  cases ha : p a
  ·rw [if_neg (by simp)]
   rcases ih (i + 1) with ⟨h1,h2⟩ | ⟨k,x,h1,h2,h3⟩
   ·exact .inl ⟨h1,fun x hx => by rcases List.mem_cons.1 hx with rfl | hx;exact ha;exact h2 x hx⟩
   ·exact .inr ⟨k + 1,x,by rw [h1];congr 1;omega,by simpa using h2,h3⟩
  ·rw [if_pos rfl]
   exact .inr ⟨0,a,rfl,rfl,ha⟩
theorem pinAt_cases (l : List PinR) (id : Int) : pinAt l id = -1 \/ ∃ (k : Nat) (x : PinR),pinAt l id = (k : Int) /\ l[k]? = some x /\ x.id = id := by
 rcases idxW_found (fun x : PinR => decide (x.id = id)) l 0 with ⟨h,_⟩ | ⟨k,x,h1,h2,h3⟩
 ·exact .inl h
 ·exact .inr ⟨k,x,by simpa [pinAt] using h1,h2,of_decide_eq_true h3⟩
theorem pcells_set {p : PinR} : ∀ (l : List PinR) (k : Nat),k < l.length -> pcells (l.set k p) = (((pcells l).set (k * 3) (.int .i64 p.id)).set (k * 3 + 1) (.int .u64 p.at')).set (k * 3 + 2) (.int .i64 p.left)
 | [],k,h => by simp at h
 | a :: l,0,h => rfl
 | a :: l,k + 1,h => by
  have ih := pcells_set l k (p := p) (by simpa using h)
  have e : (k + 1) * 3 = k * 3 + 1 + 1 + 1 := by omega
  show Value.int .i64 a.id :: Value.int .u64 a.at' :: Value.int .i64 a.left :: pcells (l.set k p) = (((Value.int .i64 a.id :: Value.int .u64 a.at' :: Value.int .i64 a.left :: pcells l).set ((k + 1) * 3) _).set ((k + 1) * 3 + 1) _).set ((k + 1) * 3 + 2) _
  rw [e,ih]
  rfl
theorem run_neq_pin (p q : PinR) (W : World) : (binOp .neq 112 (pagg p) (pagg q)).run Tryz.prog W = .ok (.bool (decide (p ≠ q))) W := by
 obtain ⟨p1,p2,p3⟩ := p
 obtain ⟨q1,q2,q3⟩ := q
 by_cases h1 : p1 = q1 <;> by_cases h2 : p2 = q2 <;> by_cases h3 : p3 = q3 <;> simp [go_sem,h1,h2,h3]
def renewed (l : List PinR) (id : Int) : List PinR := match l[(pinAt l id).toNat]? with
 | some x => l.set (pinAt l id).toNat ⟨id,x.at',8⟩
 | none => l
def RenewPost (w : World) (l : List PinR) (id : Int) (e : Ending) (w' : World) : Prop :=
 (pinAt l id < 0 /\ e = .returned (.tuple #[.slice none 0 0,.int .i64 7]) /\ Kept NoF w w') \/
 (0 <= pinAt l id /\ ∃ A c,e = .returned (.tuple #[.slice A (renewed l id).length c,.int .i64 0]) /\ NewSl 112 3 w.heap.size w' A (renewed l id).length c (pcells (renewed l id)) /\ Kept NoF w w')
theorem renew_any (w : World) (A : Option Addr) (c : Nat) (l : List PinR) (id : Int) (hl : Src w 3 A l.length (pcells l)) (hlc : l.length <= c) (hlen : l.length <= 1000000) :
  Calls Tryz.prog 201 #[.slice A l.length c,.int .i64 id] w (RenewPost w l id) := by
 have hf := fun W (hW : Kept NoF w W) (b : Nat) (hb : Has W b 3 #[.int .i64 id]) => find_any W A c l b id hb (hl.kept hW (fun _ _ z => z)) hlen
 have hwh := whose_any w id
 rcases pinAt_cases l id with h1 | ⟨k,x,h1,hx,hid⟩
 ·rw [h1] at hf
  have hP : ∀ w',Kept NoF w w' -> RenewPost w l id (.returned (.tuple #[.slice none 0 0,.int .i64 7])) w' := fun w' hk => .inl ⟨by omega,rfl,hk⟩
  have HF := hZ0 hf;have HP := hZ0 hP;have HWH := hZ0 hwh
  clear hf hP hwh hl h1
  go_enter Tryz.func201,Tryz.ntmps201
  go_wp2_with fail
  refine HWH.out.mono ?_
  rintro e w1 ⟨rfl,rfl⟩
  go_wp2_with fail
  refine (HF.out _ (by (repeat' (first | (with_reducible first | exact kR0 | apply kP0 | apply kN0 | apply kD0 | apply kA0) | (right;simp;done)))) w.heap.size (Has.new w 3 #[.int .i64 id])).mono ?_
  rintro e w2 ⟨rfl,hk⟩
  have hk2 := Kept.then (F := NoF) (a := w) (by (repeat' (first | (with_reducible first | exact kR0 | apply kP0 | apply kN0 | apply kD0 | apply kA0) | (right;simp;done)))) hk
  have HK := hZ0 hk2;clear hk hk2
  go_wp2
  go_ret2
  exact HP.out _ HK.out
 ·rw [h1] at hf
  have hkl : k < l.length := (List.getElem?_eq_some_iff.1 hx).1
  have hcl := fun W (hW : Kept NoF w W) => clonePin_any W A c l (hl.kept hW (fun _ _ z => z)) hlen
  obtain ⟨ad,rfl,had,x0,x1,x2⟩ := pin_cells hl (by omega) k x hx
  have hxk := fun W (hW : Kept NoF w W) => pin_cells (hl.kept hW (fun _ _ z => z)) (by omega) k x hx
  have hP : ∀ w' A c,NewSl 112 3 w.heap.size w' A l.length c (pcells (l.set k ⟨id,x.at',8⟩)) -> Kept NoF w w' -> RenewPost w l id (.returned (.tuple #[.slice A l.length c,.int .i64 0])) w' := fun w' A c hn hk => by
   have e1 : renewed l id = l.set k ⟨id,x.at',8⟩ := by unfold renewed;rw [h1,Int.toNat_natCast,hx]
   refine .inr ⟨by omega,A,c,?_,?_,hk⟩
   ·rw [e1,List.length_set]
   ·rw [e1,List.length_set];exact hn
  have HF := hZ0 hf;have HP := hZ0 hP;have HWH := hZ0 hwh;have HC := hZ0 hcl;have HX := hZ0 (And.intro hx hid);have HXK := hZ0 hxk
  clear hf hP hwh hl h1 x0 x1 x2 hcl hx hid hxk
  have b0 : (0 : Int) <= (k : Int) := by omega
  have b1 : (k : Int) < (l.length : Int) := by omega
  go_enter Tryz.func201,Tryz.ntmps201
  go_wp2_with fail
  refine HWH.out.mono ?_
  rintro e w1 ⟨rfl,rfl⟩
  go_wp2_with fail
  refine (HF.out _ (by (repeat' (first | (with_reducible first | exact kR0 | apply kP0 | apply kN0 | apply kD0 | apply kA0) | (right;simp;done)))) w.heap.size (Has.new w 3 #[.int .i64 id])).mono ?_
  rintro e w2 ⟨rfl,hk⟩
  have hk2 := Kept.then (F := NoF) (a := w) (by (repeat' (first | (with_reducible first | exact kR0 | apply kP0 | apply kN0 | apply kD0 | apply kA0) | (right;simp;done)))) hk
  have HK := hZ0 hk2;clear hk hk2
  go_wp2_with fail
  refine (HC.out _ HK.out).mono ?_
  rintro e w3 ⟨A1,c1,rfl,hn,hk⟩
  have hk3 := HK.out.then hk
  obtain ⟨ad',e1,had,x0,x1,x2⟩ := HXK.out _ hk3
  injection e1 with e1
  subst e1
  have HK3 := hZ0 hk3;clear hk3
  have HS2 := hZ0 HK.out.size;clear HK
  obtain ⟨rb,cap,hv,_,hrl⟩ := hn.1.form (by omega)
  injection hv with hA _ hC
  subst hA
  subst hC
  obtain ⟨ad2,e2,had2,y0,y1,y2⟩ := pin_cells (Src.of_own hn.1) (by omega) k x HX.out.1
  injection e2 with e2
  subst e2
  have hneq := run_neq_pin x ⟨id,x.at',8⟩
  obtain ⟨t,ht⟩ : ∃ t,decide (x ≠ ⟨id,x.at',8⟩) = t := ⟨_,rfl⟩
  rw [ht] at hneq
  have HT := hZ0 ht;clear ht
  obtain ⟨W4,hW4⟩ : ∃ W4,w3.alloc (.cells #[.int .i64 id,.int .u64 x.at',.int .i64 8] 112) = W4 := ⟨_,rfl⟩
  have hk4 : Kept NoF w3 W4 := by rw [<- hW4];(repeat' (first | (with_reducible first | exact kR0 | apply kP0 | apply kN0 | apply kD0 | apply kA0) | (right;simp;done)))
  obtain ⟨ad2',e2',had2',y0',y1',y2'⟩ := pin_cells (Src.of_own (own_kept (F := NoF) hn.1 hk4 (fun _ _ z => z))) (by omega) k x HX.out.1
  injection e2' with e2'
  subst e2'
  have ha : (⟨rb,0,none⟩ : Addr).add (k * 3) = ⟨rb,k * 3,none⟩ := by rw [Addr.add_lit,Nat.zero_add]
  rw [ha] at y0' y1' y2'
  dsimp only at y1' y2' had2'
  have hb9 : Has W4 w3.heap.size 112 #[.int .i64 id,.int .u64 x.at',.int .i64 8] := by rw [<- hW4];exact Has.new _ _ _
  have z0 := hb9.cell 0
  have z1 := hb9.cell 1
  have z2 := hb9.cell 2
  simp only [List.getElem?_toArray,List.getElem?_cons_zero,List.getElem?_cons_succ] at z0 z1 z2
  have hcur : ∃ cur,Has W4 rb 112 cur := by
   rcases (own_kept (F := NoF) hn.1 hk4 (fun _ _ z => z)).2 with ⟨hv,_⟩ | ⟨g',cap,cur,hv,hb,hg,_⟩
   ·cases hv
   ·injection hv with h1 h2 h3
    injection h1 with h1
    injection h1 with h1
    exact ⟨cur,by rw [h1];exact hg⟩
  obtain ⟨cur,hcur⟩ := hcur
  have f0 := hcur.frozen (k * 3)
  have f1 := hcur.frozen (k * 3 + 1)
  have f2 := hcur.frozen (k * 3 + 2)
  clear hcur
  have HN := hZ0 hn;clear hn
  have HKK := hZ0 hk;clear hk
  have HB9 := hZ0 hb9;clear hb9
  have HK4 := hZ0 hk4;clear hk4
  go_wp2_with fail
  clear hW4
  go_quiet (fail)
  cases t
  ·have hx2 := of_decide_eq_false HT.out
   simp only [ne_eq,Classical.not_not] at hx2
   have hset : l.set k ⟨id,x.at',8⟩ = l := by
    obtain ⟨h1,h2⟩ := List.getElem?_eq_some_iff.1 HX.out.1
    rw [<- hx2,<- h2];exact List.set_getElem_self h1
   have HS := hZ0 hset;clear hset hx2
   go_wp2
   go_ret2
   refine HP.out _ _ _ ?_ ((HK3.out.then HK4.out).drewN _)
   rw [HS.out]
   exact ⟨own_kept (F := NoF) HN.out.1 (HK4.out.drewN _) (fun _ _ z => z),fun g hg => by have h1 := HN.out.2 g hg;have h2 := HS2.out;omega⟩
  ·go_wp2
   go_ret2
   refine HP.out _ _ _ ⟨?_,fun g hg => by have h1 := HN.out.2 g hg;have h2 := HS2.out;omega⟩ ?_
   ·rw [pcells_set l k hkl]
    exact own_set (own_set (own_set (own_kept (F := NoF) HN.out.1 (HK4.out.drewN _) (fun _ _ z => z))))
   ·have hnew : ∀ j u W,Kept NoF w W -> Kept NoF w (W.setCell ⟨rb,j,none⟩ u) := fun j u W hW => hW.put (by have h1 := HN.out.2 rb rfl;have h2 := HS2.out;omega)
    exact hnew _ _ _ (hnew _ _ _ (hnew _ _ _ ((HK3.out.then HK4.out).drewN _)))
end Mst
end Go.Proofs.YtgffjliedjhbaaaGreat

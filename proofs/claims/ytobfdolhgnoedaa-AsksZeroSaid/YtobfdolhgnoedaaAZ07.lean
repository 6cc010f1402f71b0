/- Part 8 of what the proof needs. -/
import Derived.Test.YtobfdolhgnoedaaAZ01
import Derived.Test.YtobfdolhgnoedaaAZ06
set_option linter.unusedSimpArgs false
set_option linter.unusedVariables false
set_option maxHeartbeats 32000000
set_option maxRecDepth 100000
namespace Go.Proofs.Ytobfdolhgnoedaa
open Go.RowKit
set_option maxRecDepth 100000
namespace Ask
open Plan Ops Ent Msg MO Vn
attribute [local go_sem ↓] storeVar_msg loadVar_msg
structure TOk (t : TS) : Prop where
 n : I64 t.a.n
 ps : t.ps.length <= 32 /\ (t.a.k = 2 -> (t.ps.length : Int) <= t.a.n)
 wt : 0 <= t.waits /\ t.waits <= 1073741824
 ph : t.ph <= 2
 n1 : t.a.k = 2 -> 1 <= t.a.n /\ t.a.n <= 32
 np : t.a.k ≠ 2 -> t.ps = []
theorem i64_bd {x : Int} (h : I64 x) : -9223372036854775808 <= x /\ x <= 9223372036854775807 := by
 unfold I64 at h
 simpa [Lit.wf,IntKind.min,IntKind.max,IntKind.signed,IntKind.bits] using h
theorem TOk.i64 {t : TS} (h : TOk t) : -9223372036854775808 <= t.a.n - t.ps.length /\ t.a.n - t.ps.length <= 9223372036854775807 := by
 have h1 := i64_bd h.n
 by_cases hk : t.a.k = 2
 ·have := h.n1 hk;have := h.ps;omega
 ·rw [h.np hk];simpa using h1
theorem run_min (a b M : Int) (h : min a b = M) (W : World) (ts : Array TypeId) (t : TypeId) : (Builtin.min_ ts t #[.int .i64 a,.int .i64 b]).run Try.prog W = .ok (.int .i64 M) W := by
 rw [run_min_int2]
 split
 ·rw [show M = b by omega]
 ·rw [show M = a by omega]
theorem elemPairA : Elem Try.prog 32 68 2 32 := by
 obtain ⟨i0,hi,hz0,hz1,hz2⟩ := info_parts (show (Try.prog.info? 68).map (fun i => (i.zero,i.size,i.bytes)) = some (some (.agg #[.string ⟨#[]⟩,.string ⟨#[]⟩]),2,32) by kernel_rfl)
 exact ⟨Try.underlying32,⟨i0,_,hi,hz0,hz1,hz2,rfl⟩,by decide⟩
theorem elemOpA : Elem Try.prog 27 70 3 40 := by
 obtain ⟨i0,hi,hz0,hz1,hz2⟩ := info_parts (show (Try.prog.info? 70).map (fun i => (i.zero,i.size,i.bytes)) = some (some (.agg #[.string ⟨#[]⟩,.string ⟨#[]⟩,.bool false]),3,40) by kernel_rfl)
 exact ⟨Try.underlying27,⟨i0,_,hi,hz0,hz1,hz2,rfl⟩,by decide⟩
theorem one_prs (l : List PairR) : ∀ u ∈ pcells l,u.oneCell' = true := by
 intro u hu
 unfold pcells at hu
 rw [List.mem_flatMap] at hu
 obtain ⟨p,_,hp⟩ := hu
 unfold pcell at hp
 simp at hp
 rcases hp with rfl | rfl <;> rfl
theorem one_ops (l : List OpR) : ∀ u ∈ cells l,u.oneCell' = true := by
 intro u hu
 unfold cells at hu
 rw [List.mem_flatMap] at hu
 obtain ⟨p,_,hp⟩ := hu
 unfold cell at hp
 simp at hp
 rcases hp with rfl | rfl | rfl <;> rfl
def NewPr (w : World) (l : List PairR) (e : Ending) (w' : World) : Prop :=
 ∃ A c,e = .returned (.slice A l.length c) /\ NewSl 68 2 w.heap.size w' A l.length c (pcells l) /\ Kept NoF w w'
theorem clonePr_any (w : World) (A : Option Addr) (c : Nat) (l : List PairR) (hl : Src w 2 A l.length (pcells l)) (hlen : l.length <= 1000000) :
  Calls Try.prog 28 #[.slice A l.length c] w (NewPr w l) := by
 have hnil : ∀ W n' c',(binOp .eql 32 (.slice A l.length c) (.slice none n' c')).run Try.prog W = .ok (.bool A.isNone) W := fun W n' c' => Lib.run_eql_slice_nil W _ _ A _ _ _ _ Try.underlying32
 cases A with
 | none =>
  have h0 : l.length = 0 := by
   rcases Nat.eq_zero_or_pos l.length with h | h
   ·exact h
   ·obtain ⟨ad,h1,_⟩ := hl.2 h;cases h1
  obtain rfl : l = [] := List.eq_nil_of_length_eq_zero h0
  clear h0 hl
  simp only [Option.isNone_none,List.length_nil] at hnil ⊢
  go_enter Try.func28,Try.ntmps28
  go_wp2
  go_ret
  exact ⟨none,0,rfl,⟨⟨rfl,.inl ⟨rfl,rfl⟩⟩,fun k hk => by cases hk⟩,Kept.refl _ _⟩
 | some ad =>
  simp only [Option.isNone_some] at hnil
  have hm1 : 0 + l.length <= maxLen := by unfold maxLen;omega
  have hm2 : (0 + l.length) * 32 <= 140737488355328 := by omega
  have HM1 := hZ0 hm1;clear hm1
  have HM2 := hZ0 hm2;clear hm2
  have HL := hZ0 hl;clear hl
  go_enter Try.func28,Try.ntmps28
  go_wp2_with (at_builtin;refine list_append_src elemPairA (.tmp 5) (.tmp 6) rfl rfl (Value.slice (some ⟨w.heap.size,0,none⟩) 0 0) rfl (own_empty (Has.new w 68 #[]) rfl) c rfl (HL.out.kept ((Kept.refl NoF w).alloc _) (fun _ _ x => x)) (one_prs l) HM1.out HM2.out ?_;intro A1 c1 w1 ho1 hg1 ha1;simp only [Nat.zero_add,List.nil_append] at ho1 ha1;have hk1 : Kept NoF w w1 := ((Kept.refl NoF w).alloc _).grown hg1 (fun k hk => .inr (new_row hk (Nat.le_refl _)));have HO1 := hZ0 (And.intro ho1 (And.intro ha1 hk1));clear ho1 hg1 ha1 hk1)
  go_ret
  refine ⟨A1,c1,by simp,⟨HO1.out.1,fun k hk => ?_⟩,HO1.out.2.2⟩
  rcases HO1.out.2.1 with e | e
  ·exact new_row (e.symm.trans hk) (Nat.le_refl _)
  ·rw [hk] at e
   injection e with e
   simp at e
   omega
def NewOp (w : World) (l : List OpR) (e : Ending) (w' : World) : Prop :=
 ∃ A c,e = .returned (.slice A l.length c) /\ NewSl 70 3 w.heap.size w' A l.length c (cells l) /\ Kept NoF w w'
theorem cloneOp_any (w : World) (A : Option Addr) (c : Nat) (l : List OpR) (hl : Src w 3 A l.length (cells l)) (hlen : l.length <= 1000000) :
  Calls Try.prog 104 #[.slice A l.length c] w (NewOp w l) := by
 have hnil : ∀ W n' c',(binOp .eql 27 (.slice A l.length c) (.slice none n' c')).run Try.prog W = .ok (.bool A.isNone) W := fun W n' c' => Lib.run_eql_slice_nil W _ _ A _ _ _ _ Try.underlying27
 cases A with
 | none =>
  have h0 : l.length = 0 := by
   rcases Nat.eq_zero_or_pos l.length with h | h
   ·exact h
   ·obtain ⟨ad,h1,_⟩ := hl.2 h;cases h1
  obtain rfl : l = [] := List.eq_nil_of_length_eq_zero h0
  clear h0 hl
  simp only [Option.isNone_none,List.length_nil] at hnil ⊢
  go_enter Try.func104,Try.ntmps104
  go_wp2
  go_ret
  exact ⟨none,0,rfl,⟨⟨rfl,.inl ⟨rfl,rfl⟩⟩,fun k hk => by cases hk⟩,Kept.refl _ _⟩
 | some ad =>
  simp only [Option.isNone_some] at hnil
  have hm1 : 0 + l.length <= maxLen := by unfold maxLen;omega
  have hm2 : (0 + l.length) * 40 <= 140737488355328 := by omega
  have HM1 := hZ0 hm1;clear hm1
  have HM2 := hZ0 hm2;clear hm2
  have HL := hZ0 hl;clear hl
  go_enter Try.func104,Try.ntmps104
  go_wp2_with (at_builtin;refine list_append_src elemOpA (.tmp 5) (.tmp 6) rfl rfl (Value.slice (some ⟨w.heap.size,0,none⟩) 0 0) rfl (own_empty (Has.new w 70 #[]) rfl) c rfl (HL.out.kept ((Kept.refl NoF w).alloc _) (fun _ _ x => x)) (one_ops l) HM1.out HM2.out ?_;intro A1 c1 w1 ho1 hg1 ha1;simp only [Nat.zero_add,List.nil_append] at ho1 ha1;have hk1 : Kept NoF w w1 := ((Kept.refl NoF w).alloc _).grown hg1 (fun k hk => .inr (new_row hk (Nat.le_refl _)));have HO1 := hZ0 (And.intro ho1 (And.intro ha1 hk1));clear ho1 hg1 ha1 hk1)
  go_ret
  refine ⟨A1,c1,by simp,⟨HO1.out.1,fun k hk => ?_⟩,HO1.out.2.2⟩
  rcases HO1.out.2.1 with e | e
  ·exact new_row (e.symm.trans hk) (Nat.le_refl _)
  ·rw [hk] at e
   injection e with e
   simp at e
   omega
section
variable {w w' : World} {X : PX} {t : TS} {G : Nat -> Prop}
theorem psize_any (h : PAt w X t) (h1 : t.ph = 1) (hok : TOk t) : Calls Try.prog 97 #[.pointer (some ⟨X.g,0,none⟩)] w fun e w' => e = .returned (.int .i64 (sizeT t)) /\ Kept NoF w w' := by
 have hg := h.g h1
 obtain ⟨gb,hgb⟩ : ∃ gb,X.g = gb := ⟨_,rfl⟩
 rw [hgb] at hg ⊢
 have q1 : w.cell? ⟨gb,8,none⟩ = some (.int .i64 t.a.n) := hg.cell 8
 have q2 : w.cell? ⟨gb,12,none⟩ = some (.slice X.pA t.ps.length X.pc) := hg.cell 12
 have hi := hok.i64
 obtain ⟨d,hd⟩ : ∃ d,t.a.n - (t.ps.length : Int) = d := ⟨_,rfl⟩
 rw [hd] at hi
 have hl : t.ps.length <= 9223372036854775807 := by have := hok.ps.1;omega
 have hwr : IntKind.i64.wrap (t.a.n - (t.ps.length : Int)) = d := by rw [hd];exact IntWalk.i64_in _ hi
 have hmn := run_min 2 d _ rfl
 have hs : sizeT t = min 2 d := by unfold sizeT;rw [hd]
 rw [hs]
 clear h hg hd hs hok
 go_enter Try.func97,Try.ntmps97
 go_wp2
 go_quiet (fail)
 go_wp2
 go_ret
 exact ⟨rfl,by (repeat' (first | (with_reducible first | exact kR0 | apply kP0 | apply kN0 | apply kD0 | apply kA0) | (right;simp;done)))⟩
theorem results_row_tmp {fn : Func} {p u : Tmp} {ty : TypeId} (h : fn.results = #[.cell p ty,.tmp u]) (tmps : Array Value) (W : World) (g : Nat) (v : Value) (hp : tmps.getD p undef = .pointer (some ⟨g,0,none⟩)) (hl : (loadVar ty ⟨g,0,none⟩).run Try.prog W = .ok v W) :
  (results fn tmps).run Try.prog W = .ok (.tuple #[v,tmps.getD u undef]) W := by
 have hp' : tmps[p]?.getD undef = .pointer (some ⟨g,0,none⟩) := by simpa using hp
 simp [results,h,hp',asAddr,hl]
theorem results_tmp_row {fn : Func} {p u : Tmp} {ty : TypeId} (h : fn.results = #[.tmp u,.cell p ty]) (tmps : Array Value) (W : World) (g : Nat) (v : Value) (hp : tmps.getD p undef = .pointer (some ⟨g,0,none⟩)) (hl : (loadVar ty ⟨g,0,none⟩).run Try.prog W = .ok v W) :
  (results fn tmps).run Try.prog W = .ok (.tuple #[tmps.getD u undef,v]) W := by
 have hp' : tmps[p]?.getD undef = .pointer (some ⟨g,0,none⟩) := by simpa using hp
 simp [results,h,hp',asAddr,hl]
theorem load_rep {W : World} {g : Nat} {r : RepR} {A : Option Addr} {c : Nat} (h : Has W g 46 (rcell r A c).toArray) : (loadVar 46 ⟨g,0,none⟩).run Try.prog W = .ok (ragg r A c) W :=
 run_loadVar_row W g _ _ _ (0,0) _ h Try.underlying46 rfl (by kernel_rfl)
theorem NewSl.above {e : TypeId} {size B n c : Nat} {W : World} {A : Option Addr} {xs : List Value} (h : NewSl e size B W A n c xs) : ∀ ad,A = some ad -> B <= ad.block := by
 rintro ad rfl
 obtain ⟨⟨_,h1⟩,h2⟩ := h
 rcases h1 with ⟨h3,_⟩ | ⟨g,cap,cur,h3,_⟩
 ·cases h3
 ·injection h3 with h4
  injection h4 with h4
  subst h4
  exact h2 g rfl
theorem put_msg {W : World} {rb : Nat} {cs : Array Value} (h : Has W rb 34 cs) (hs : cs.size = 22) (x : MsgR) : ∃ W',(storeMsg ⟨rb,0,none⟩ (.agg (xcell x).toArray)).run Try.prog W = .ok () W' /\ Has W' rb 34 (xcell x).toArray /\ Kept (fun k => k = rb) W W' :=
 ⟨_,run_storeVar_row W rb _ _ _ _ h (show (Try.prog.info? 34).map (·.size) = some 22 by kernel_rfl) (by rw [hs];rfl) (one_x x),setRow_heap W rb _ _ _ _ h,kept_setRow _ _ _⟩
def NextPost (w : World) (t : TS) (ep hd : Int) (e : Ending) (w' : World) : Prop :=
 ∃ A c,e = .returned (.tuple #[.int .i64 (nextT t ep hd).1,xagg { (nextT t ep hd).2 with oA := A,oc := c }]) /\ Src w' 3 A (nextT t ep hd).2.ops.length (cells (nextT t ep hd).2.ops) /\ (nextT t ep hd).2.ops.length <= c /\ (∀ ad,A = some ad -> w.heap.size <= ad.block) /\ Kept NoF w w'
end
end Ask
end Go.Proofs.Ytobfdolhgnoedaa

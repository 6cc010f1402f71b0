/- Part 8 of what the proof needs. -/
import Derived.Test.YtgbigpdiacjbgaaGreatKO01
import Derived.Test.YtgbigpdiacjbgaaGreatKO06
set_option linter.unusedSimpArgs false
set_option linter.unusedVariables false
set_option maxHeartbeats 32000000
set_option maxRecDepth 100000
namespace Go.Proofs.YtgbigpdiacjbgaaGreat
open Go.RowKit
set_option maxRecDepth 100000
namespace Ask
open Plan Ops Ent Msg MO Vn
attribute [local go_sem ↓] storeVar_msg loadVar_msg
structure TOk (t : TS) : Prop where
 n : I64 t.a.n
 ps : t.ps.length <= 32 /\ (t.a.k = 2 -> (t.ps.length : Int) <= t.a.n)
 wt : 0 <= t.waits /\ t.waits <= 1073741824
 ph : t.ph <= 2
 n1 : t.a.k = 2 -> 1 <= t.a.n /\ t.a.n <= 32
 np : t.a.k ≠ 2 -> t.ps = []
theorem i64_bd {x : Int} (h : I64 x) : -9223372036854775808 <= x /\ x <= 9223372036854775807 := by
 unfold I64 at h
 simpa [Lit.wf,IntKind.min,IntKind.max,IntKind.signed,IntKind.bits] using h
theorem TOk.i64 {t : TS} (h : TOk t) : -9223372036854775808 <= t.a.n - t.ps.length /\ t.a.n - t.ps.length <= 9223372036854775807 := by
 have h1 := i64_bd h.n
 by_cases hk : t.a.k = 2
 ·have := h.n1 hk;have := h.ps;omega
 ·rw [h.np hk];simpa using h1
theorem run_min (a b M : Int) (h : min a b = M) (W : World) (ts : Array TypeId) (t : TypeId) : (Builtin.min_ ts t #[.int .i64 a,.int .i64 b]).run Tryz.prog W = .ok (.int .i64 M) W := by
 rw [run_min_int2]
 split
 ·rw [show M = b by omega]
 ·rw [show M = a by omega]
theorem elemPairA : Elem Tryz.prog 34 84 2 32 := by
 obtain ⟨i0,hi,hz0,hz1,hz2⟩ := info_parts (show (Tryz.prog.info? 84).map (fun i => (i.zero,i.size,i.bytes)) = some (some (.agg #[.string ⟨#[]⟩,.string ⟨#[]⟩]),2,32) by kernel_rfl)
 exact ⟨Tryz.underlying34,⟨i0,_,hi,hz0,hz1,hz2,rfl⟩,by decide⟩
theorem elemOpA : Elem Tryz.prog 23 143 3 40 := by
 obtain ⟨i0,hi,hz0,hz1,hz2⟩ := info_parts (show (Tryz.prog.info? 143).map (fun i => (i.zero,i.size,i.bytes)) = some (some (.agg #[.string ⟨#[]⟩,.string ⟨#[]⟩,.bool false]),3,40) by kernel_rfl)
 exact ⟨Tryz.underlying23,⟨i0,_,hi,hz0,hz1,hz2,rfl⟩,by decide⟩
theorem one_prs (l : List PairR) : ∀ u ∈ pcells l,u.oneCell' = true := by
 intro u hu
 unfold pcells at hu
 rw [List.mem_flatMap] at hu
 obtain ⟨p,_,hp⟩ := hu
 unfold pcell at hp
 simp at hp
 rcases hp with rfl | rfl <;> rfl
theorem one_ops (l : List OpR) : ∀ u ∈ cells l,u.oneCell' = true := by
 intro u hu
 unfold cells at hu
 rw [List.mem_flatMap] at hu
 obtain ⟨p,_,hp⟩ := hu
 unfold cell at hp
 simp at hp
 rcases hp with rfl | rfl | rfl <;> rfl
def NewPr (w : World) (l : List PairR) (e : Ending) (w' : World) : Prop :=
 ∃ A c,e = .returned (.slice A l.length c) /\ NewSl 84 2 w.heap.size w' A l.length c (pcells l) /\ Kept NoF w w'
theorem clonePr_any (w : World) (A : Option Addr) (c : Nat) (l : List PairR) (hl : Src w 2 A l.length (pcells l)) (hlen : l.length <= 1000000) :
  Calls Tryz.prog 28 #[.slice A l.length c] w (NewPr w l) := by
 have hnil : ∀ W n' c',(binOp .eql 34 (.slice A l.length c) (.slice none n' c')).run Tryz.prog W = .ok (.bool A.isNone) W := fun W n' c' => Lib.run_eql_slice_nil W _ _ A _ _ _ _ Tryz.underlying34
 cases A with
 | none =>
  have h0 : l.length = 0 := by
   rcases Nat.eq_zero_or_pos l.length with h | h
   ·exact h
   ·obtain ⟨ad,h1,_⟩ := hl.2 h;cases h1
  obtain rfl : l = [] := List.eq_nil_of_length_eq_zero h0
  clear h0 hl
  simp only [Option.isNone_none,List.length_nil] at hnil ⊢
  go_enter Tryz.func28,Tryz.ntmps28
  go_wp2
  go_ret
  exact ⟨none,0,rfl,⟨⟨rfl,.inl ⟨rfl,rfl⟩⟩,fun k hk => by cases hk⟩,Kept.refl _ _⟩
 | some ad =>
  simp only [Option.isNone_some] at hnil
  have hm1 : 0 + l.length <= maxLen := by unfold maxLen;omega
  have hm2 : (0 + l.length) * 32 <= 140737488355328 := by omega
  have HM1 := hZ0 hm1;clear hm1
  have HM2 := hZ0 hm2;clear hm2
  have HL := hZ0 hl;clear hl
  go_enter Tryz.func28,Tryz.ntmps28
  go_wp2_with (at_builtin;refine list_append_src elemPairA (.tmp 5) (.tmp 6) rfl rfl (Value.slice (some ⟨w.heap.size,0,none⟩) 0 0) rfl (own_empty (Has.new w 84 #[]) rfl) c rfl (HL.out.kept ((Kept.refl NoF w).alloc _) (fun _ _ x => x)) (one_prs l) HM1.out HM2.out ?_;intro A1 c1 w1 ho1 hg1 ha1;simp only [Nat.zero_add,List.nil_append] at ho1 ha1;have hk1 : Kept NoF w w1 := ((Kept.refl NoF w).alloc _).grown hg1 (fun k hk => .inr (new_row hk (Nat.le_refl _)));have HO1 := hZ0 (And.intro ho1 (And.intro ha1 hk1));clear ho1 hg1 ha1 hk1)
  go_ret
  refine ⟨A1,c1,by simp,⟨HO1.out.1,fun k hk => ?_⟩,HO1.out.2.2⟩
  rcases HO1.out.2.1 with e | e
  ·exact new_row (e.symm.trans hk) (Nat.le_refl _)
  ·rw [hk] at e
   injection e with e
   simp at e
   omega
def NewOp (w : World) (l : List OpR) (e : Ending) (w' : World) : Prop :=
 ∃ A c,e = .returned (.slice A l.length c) /\ NewSl 143 3 w.heap.size w' A l.length c (cells l) /\ Kept NoF w w'
theorem cloneOp_any (w : World) (A : Option Addr) (c : Nat) (l : List OpR) (hl : Src w 3 A l.length (cells l)) (hlen : l.length <= 1000000) :
  Calls Tryz.prog 208 #[.slice A l.length c] w (NewOp w l) := by
 have hnil : ∀ W n' c',(binOp .eql 23 (.slice A l.length c) (.slice none n' c')).run Tryz.prog W = .ok (.bool A.isNone) W := fun W n' c' => Lib.run_eql_slice_nil W _ _ A _ _ _ _ Tryz.underlying23
 cases A with
 | none =>
  have h0 : l.length = 0 := by
   rcases Nat.eq_zero_or_pos l.length with h | h
   ·exact h
   ·obtain ⟨ad,h1,_⟩ := hl.2 h;cases h1
  obtain rfl : l = [] := List.eq_nil_of_length_eq_zero h0
  clear h0 hl
  simp only [Option.isNone_none,List.length_nil] at hnil ⊢
  go_enter Tryz.func208,Tryz.ntmps208
  go_wp2
  go_ret
  exact ⟨none,0,rfl,⟨⟨rfl,.inl ⟨rfl,rfl⟩⟩,fun k hk => by cases hk⟩,Kept.refl _ _⟩
 | some ad =>
  simp only [Option.isNone_some] at hnil
  have hm1 : 0 + l.length <= maxLen := by unfold maxLen;omega
  have hm2 : (0 + l.length) * 40 <= 140737488355328 := by omega
  have HM1 := hZ0 hm1;clear hm1
  have HM2 := hZ0 hm2;clear hm2
  have HL := hZ0 hl;clear hl
  go_enter Tryz.func208,Tryz.ntmps208
  go_wp2_with (at_builtin;refine list_append_src elemOpA (.tmp 5) (.tmp 6) rfl rfl (Value.slice (some ⟨w.heap.size,0,none⟩) 0 0) rfl (own_empty (Has.new w 143 #[]) rfl) c rfl (HL.out.kept ((Kept.refl NoF w).alloc _) (fun _ _ x => x)) (one_ops l) HM1.out HM2.out ?_;intro A1 c1 w1 ho1 hg1 ha1;simp only [Nat.zero_add,List.nil_append] at ho1 ha1;have hk1 : Kept NoF w w1 := ((Kept.refl NoF w).alloc _).grown hg1 (fun k hk => .inr (new_row hk (Nat.le_refl _)));have HO1 := hZ0 (And.intro ho1 (And.intro ha1 hk1));clear ho1 hg1 ha1 hk1)
  go_ret
  refine ⟨A1,c1,by simp,⟨HO1.out.1,fun k hk => ?_⟩,HO1.out.2.2⟩
  rcases HO1.out.2.1 with e | e
  ·exact new_row (e.symm.trans hk) (Nat.le_refl _)
  ·rw [hk] at e
   injection e with e
   simp at e
   omega
section
variable {w w' : World} {X : PX} {t : TS} {G : Nat -> Prop}
theorem psize_any (h : PAt w X t) (h1 : t.ph = 1) (hok : TOk t) : Calls Tryz.prog 211 #[.pointer (some ⟨X.g,0,none⟩)] w fun e w' => e = .returned (.int .i64 (sizeT t)) /\ Kept NoF w w' := by
 have hg := h.g h1
 obtain ⟨gb,hgb⟩ : ∃ gb,X.g = gb := ⟨_,rfl⟩
 rw [hgb] at hg ⊢
 have q1 : w.cell? ⟨gb,8,none⟩ = some (.int .i64 t.a.n) := hg.cell 8
 have q2 : w.cell? ⟨gb,12,none⟩ = some (.slice X.pA t.ps.length X.pc) := hg.cell 12
 have hi := hok.i64
 obtain ⟨d,hd⟩ : ∃ d,t.a.n - (t.ps.length : Int) = d := ⟨_,rfl⟩
 rw [hd] at hi
 have hl : t.ps.length <= 9223372036854775807 := by have := hok.ps.1;omega
 have hwr : IntKind.i64.wrap (t.a.n - (t.ps.length : Int)) = d := by rw [hd];exact IntWalk.i64_in _ hi
 have hmn := run_min 2 d _ rfl
 have hs : sizeT t = min 2 d := by unfold sizeT;rw [hd]
 rw [hs]
 clear h hg hd hs hok
 go_enter Tryz.func211,Tryz.ntmps211
 go_wp2
 go_quiet (fail)
 go_wp2
 go_ret
 exact ⟨rfl,by (repeat' (first | (with_reducible first | exact kR0 | apply kP0 | apply kN0 | apply kD0 | apply kA0) | (right;simp;done)))⟩
theorem results_row_tmp {fn : Func} {p u : Tmp} {ty : TypeId} (h : fn.results = #[.cell p ty,.tmp u]) (tmps : Array Value) (W : World) (g : Nat) (v : Value) (hp : tmps.getD p undef = .pointer (some ⟨g,0,none⟩)) (hl : (loadVar ty ⟨g,0,none⟩).run Tryz.prog W = .ok v W) :
  (results fn tmps).run Tryz.prog W = .ok (.tuple #[v,tmps.getD u undef]) W := by
 have hp' : tmps[p]?.getD undef = .pointer (some ⟨g,0,none⟩) := by simpa using hp
 simp [results,h,hp',asAddr,hl]
theorem results_tmp_row {fn : Func} {p u : Tmp} {ty : TypeId} (h : fn.results = #[.tmp u,.cell p ty]) (tmps : Array Value) (W : World) (g : Nat) (v : Value) (hp : tmps.getD p undef = .pointer (some ⟨g,0,none⟩)) (hl : (loadVar ty ⟨g,0,none⟩).run Tryz.prog W = .ok v W) :
  (results fn tmps).run Tryz.prog W = .ok (.tuple #[tmps.getD u undef,v]) W := by
 have hp' : tmps[p]?.getD undef = .pointer (some ⟨g,0,none⟩) := by simpa using hp
 simp [results,h,hp',asAddr,hl]
theorem load_rep {W : World} {g : Nat} {r : RepR} {A : Option Addr} {c : Nat} (h : Has W g 36 (rcell r A c).toArray) : (loadVar 36 ⟨g,0,none⟩).run Tryz.prog W = .ok (ragg r A c) W :=
 run_loadVar_row W g _ _ _ (0,0) _ h Tryz.underlying36 rfl (by kernel_rfl)
theorem NewSl.above {e : TypeId} {size B n c : Nat} {W : World} {A : Option Addr} {xs : List Value} (h : NewSl e size B W A n c xs) : ∀ ad,A = some ad -> B <= ad.block := by
 rintro ad rfl
 obtain ⟨⟨_,h1⟩,h2⟩ := h
 rcases h1 with ⟨h3,_⟩ | ⟨g,cap,cur,h3,_⟩
 ·cases h3
 ·injection h3 with h4
  injection h4 with h4
  subst h4
  exact h2 g rfl
theorem put_msg {W : World} {rb : Nat} {cs : Array Value} (h : Has W rb 63 cs) (hs : cs.size = 22) (x : MsgR) : ∃ W',(storeMsg ⟨rb,0,none⟩ (.agg (xcell x).toArray)).run Tryz.prog W = .ok () W' /\ Has W' rb 63 (xcell x).toArray /\ Kept (fun k => k = rb) W W' :=
 ⟨_,run_storeVar_row W rb _ _ _ _ h (show (Tryz.prog.info? 63).map (·.size) = some 22 by kernel_rfl) (by rw [hs];rfl) (one_x x),setRow_heap W rb _ _ _ _ h,kept_setRow _ _ _⟩
def NextPost (w : World) (t : TS) (ep hd : Int) (e : Ending) (w' : World) : Prop :=
 ∃ A c,e = .returned (.tuple #[.int .i64 (nextT t ep hd).1,xagg { (nextT t ep hd).2 with oA := A,oc := c }]) /\ Src w' 3 A (nextT t ep hd).2.ops.length (cells (nextT t ep hd).2.ops) /\ (nextT t ep hd).2.ops.length <= c /\ (∀ ad,A = some ad -> w.heap.size <= ad.block) /\ Kept NoF w w'
def DonePost (w : World) (t : TS) (e : Ending) (w' : World) : Prop :=
 ∃ A c,e = .returned (.tuple #[ragg (repT t) A c,.bool t.dn]) /\ NewSl 84 2 w.heap.size w' A (repT t).ps.length c (pcells (repT t).ps) /\ Kept NoF w w'
theorem pdone_any (h : PAt w X t) (hl : t.r.ps.length <= 1000) : Calls Tryz.prog 66 #[.pointer (some ⟨X.b,0,none⟩)] w (DonePost w t) := by
 obtain ⟨W0,hW0⟩ : ∃ W0,w.alloc (.cells #[.int .i64 0,.int .i64 0,.int .u64 0,.int .i64 0,.slice none 0 0] 36) = W0 := ⟨_,rfl⟩
 have hk0 : Kept NoF w W0 := by rw [<- hW0];(repeat' (first | (with_reducible first | exact kR0 | apply kP0 | apply kN0 | apply kD0 | apply kA0) | (right;simp;done)))
 have hn0 : Has W0 w.heap.size 36 #[.int .i64 0,.int .i64 0,.int .u64 0,.int .i64 0,.slice none 0 0] := by rw [<- hW0];exact Has.new _ _ _
 have hnone := none_any (h.quiet hk0)
 have hb := h.b.kept hk0 (fun z => z)
 have hcl := fun W (hW : Kept NoF W0 W) => clonePr_any W X.rA X.rc t.r.ps (Src.of_own (own_kept h.r (hk0.then hW) (fun _ _ z => z))) (by omega)
 unfold tcell at hb
 obtain ⟨bb,hbb⟩ : ∃ bb,X.b = bb := ⟨_,rfl⟩
 rw [hbb] at hnone hb ⊢
 obtain ⟨rb,hrb⟩ : ∃ rb,w.heap.size = rb := ⟨_,rfl⟩
 rw [hrb] at hn0
 have b3 : W0.cell? ⟨bb,3,none⟩ = some (.bool t.dn) := hb.cell 3
 have b4 : W0.cell? ⟨bb,4,none⟩ = some (.int .i64 t.r.req) := hb.cell 4
 have b5 : W0.cell? ⟨bb,5,none⟩ = some (.int .i64 t.r.e) := hb.cell 5
 have b6 : W0.cell? ⟨bb,6,none⟩ = some (.int .u64 t.r.at') := hb.cell 6
 have b7 : W0.cell? ⟨bb,7,none⟩ = some (.int .i64 t.r.pin) := hb.cell 7
 have b8 : W0.cell? ⟨bb,8,none⟩ = some (.slice X.rA t.r.ps.length X.rc) := hb.cell 8
 have HN := hZ0 hnone;have HCL := hZ0 hcl;have HK0 := hZ0 hk0;have HN0 := hZ0 hn0
 clear hnone hcl hk0 hn0 h hb hl
 cases hdn : t.dn with
 | false =>
  have hrep : repT t = rep0 := by unfold repT;rw [hdn];rfl
  have HREP := hZ0 hrep;have HDN := hZ0 hdn;clear hrep
  rw [hdn] at b3
  clear hdn b4 b5 b6 b7 b8
  go_enter Tryz.func66,Tryz.ntmps66
  go_wp2_with fail
  refine HN.out.mono ?_
  rintro e w1 ⟨rfl,rfl⟩
  have f0 := HN0.out.frozen 0;have f1 := HN0.out.frozen 1;have f2 := HN0.out.frozen 2;have f3 := HN0.out.frozen 3;have f4 := HN0.out.frozen 4
  have y0 := HN0.out.cell 0;have y1 := HN0.out.cell 1;have y2 := HN0.out.cell 2;have y3 := HN0.out.cell 3;have y4 := HN0.out.cell 4
  simp at y0 y1 y2 y3 y4
  go_wp2
  refine bodyPost_ret (results_row_tmp rfl _ _ rb _ rfl (load_rep (r := rep0) (A := none) (c := 0) (by ((repeat (first | with_reducible exact HN0.out | with_reducible apply Has.put_of | with_reducible apply Has.past | with_reducible apply Has.drewN | with_reducible apply Has.drew | with_reducible apply Has.alloc)) <;> first | omega | rfl)))) rfl ?_
  refine ⟨none,0,?_,?_,?_⟩
  ·rw [HREP.out,HDN.out];rfl
  ·rw [HREP.out];exact ⟨⟨rfl,.inl ⟨rfl,rfl⟩⟩,fun k hk => by cases hk⟩
  ·(repeat' (first | (with_reducible first | exact kR0 | apply kP0 | apply kN0 | apply kD0 | apply kA0) | (first | exact HK0.out | (right;omega)) | (right;simp;done)))
 | true =>
  have hrep : repT t = t.r := by unfold repT;rw [hdn];rfl
  have HREP := hZ0 hrep;have HDN := hZ0 hdn;clear hrep
  rw [hdn] at b3
  clear hdn
  obtain ⟨n,hn⟩ : ∃ n,t.r.ps.length = n := ⟨_,rfl⟩
  rw [hn] at b8
  simp only [hn] at HCL
  have HNN := hZ0 hn;clear hn
  go_enter Tryz.func66,Tryz.ntmps66
  go_wp2_with fail
  refine HN.out.mono ?_
  rintro e w1 ⟨rfl,rfl⟩
  obtain ⟨W1,hW1⟩ : ∃ W1,W0.alloc (.cells #[.int .i64 t.r.req,.int .i64 t.r.e,.int .u64 t.r.at',.int .i64 t.r.pin,.slice X.rA n X.rc] 36) = W1 := ⟨_,rfl⟩
  have hk1 : Kept NoF W0 W1 := by rw [<- hW1];(repeat' (first | (with_reducible first | exact kR0 | apply kP0 | apply kN0 | apply kD0 | apply kA0) | (right;simp;done)))
  have hn1 : Has W1 W0.heap.size 36 #[.int .i64 t.r.req,.int .i64 t.r.e,.int .u64 t.r.at',.int .i64 t.r.pin,.slice X.rA n X.rc] := by rw [<- hW1];exact Has.new _ _ _
  have HN1 := hZ0 hn1;have HK1 := hZ0 hk1
  have hcl1 := HCL.out W1 hk1
  have HCL1 := hZ0 hcl1
  have zz : W1.cell? ⟨W0.heap.size,4,none⟩ = some (.slice X.rA n X.rc) := hn1.cell 4
  clear hk1 hn1 hcl1
  go_wp2_with fail
  clear hW1 zz
  refine HCL1.out.mono ?_
  rintro e w3 ⟨A,c,rfl,hnp,hk3⟩
  have h1 := HN1.out.kept hk3 (fun z => z)
  have h0 := HN0.out.kept (HK1.out.then hk3) (fun z => z)
  have hne : W0.heap.size ≠ rb := fun e => by have := HN0.out.lt;omega
  obtain ⟨ab,hab⟩ : ∃ ab,W0.heap.size = ab := ⟨_,rfl⟩
  rw [hab] at h1 hne ⊢
  have y0 := h1.cell 0;have y1 := h1.cell 1;have y2 := h1.cell 2;have y3 := h1.cell 3;have y4 := h1.cell 4
  have f4' := h1.frozen 4
  have f0 := h0.frozen 0;have f1 := h0.frozen 1;have f2 := h0.frozen 2;have f3 := h0.frozen 3;have f4 := h0.frozen 4
  have z0 := h0.cell 0;have z1 := h0.cell 1;have z2 := h0.cell 2;have z3 := h0.cell 3;have z4 := h0.cell 4
  simp at y0 y1 y2 y3 y4 z0 z1 z2 z3 z4
  have H0 := hZ0 h0;have HNP := hZ0 hnp;have HK3 := hZ0 (HK0.out.then (HK1.out.then hk3));have HNE := hZ0 hne;have HNB := hZ0 (show w.heap.size <= ab by have := HK0.out.size;omega)
  have HLT := hZ0 h1.lt;have HAB := hZ0 h1
  have HS := hZ0 (HK1.out.then hk3).size
  clear h1 h0 hnp hk3 hab
  go_wp2
  refine bodyPost_ret (results_row_tmp rfl _ _ rb _ rfl (load_rep (r := t.r) (A := A) (c := c) (by ((repeat (first | with_reducible exact H0.out | with_reducible apply Has.put_of | with_reducible apply Has.past | with_reducible apply Has.drewN | with_reducible apply Has.drew | with_reducible apply Has.alloc)) <;> first | omega | rfl)))) rfl ?_
  refine ⟨A,c,?_,?_,?_⟩
  ·rw [HREP.out,HDN.out];rfl
  ·rw [HREP.out]
   have hkf : Kept (fun k => k = ab \/ k = rb) w3 ((((((w3.setCell ⟨ab,4,none⟩ (.slice A t.r.ps.length c)).setCell ⟨rb,0,none⟩ (.int .i64 t.r.req)).setCell ⟨rb,1,none⟩ (.int .i64 t.r.e)).setCell ⟨rb,2,none⟩ (.int .u64 t.r.at')).setCell ⟨rb,3,none⟩ (.int .i64 t.r.pin)).setCell ⟨rb,4,none⟩ (.slice A t.r.ps.length c)) := by (repeat' (first | (with_reducible first | exact kR0 | apply kP0 | apply kN0 | apply kD0 | apply kA0) | (first | exact .inl (.inl rfl) | exact .inl (.inr rfl)) | (right;simp;done)))
   refine ⟨own_kept HNP.out.1 hkf (fun k hk e => ?_),fun k hk => ?_⟩
   ·rcases e with e | e
    ·exact own_ne HNP.out.1 HAB.out (by decide) (e ▸ hk)
    ·exact own_ne HNP.out.1 H0.out (by decide) (e ▸ hk)
   ·have := HNP.out.2 k hk;have := HK1.out.size;have := HK0.out.size;omega
  ·(repeat' (first | (with_reducible first | exact kR0 | apply kP0 | apply kN0 | apply kD0 | apply kA0) | (first | exact HK3.out | exact .inr HNB.out | exact .inr (by omega)) | (right;simp;done)))
end
end Ask
end Go.Proofs.YtgbigpdiacjbgaaGreat

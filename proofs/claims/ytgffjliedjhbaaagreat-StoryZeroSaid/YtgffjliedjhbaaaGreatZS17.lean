/- Part 18 of what the proof needs. -/
import Derived.Test.YtgffjliedjhbaaaGreatZS16
import Derived.RegionIn
set_option linter.unusedSimpArgs false
set_option linter.unusedVariables false
set_option maxHeartbeats 32000000
set_option maxRecDepth 100000
namespace Go.Proofs.YtgffjliedjhbaaaGreat
open Go.RowKit Go.Shelf
attribute [local go_sem] Oper.semAt_some
set_option maxRecDepth 100000
namespace Fr
open Vn Ops
theorem frames_in (F : Fence) (n : Nat) (h5 : F.fn 236) (hro : F.round = none) (s : ByteArray) (w : World) :
  CallsIn F n Tryz.prog 236 #[.string s] w fun e w' => e = .returned (.func (.func 256) #[] #[.pointer (some ⟨w.heap.size,0,none⟩)]) /\ w' = w.alloc (.cells #[.string s] 9) := by
 refine callsIn_of_wp Tryz.func236 rfl h5 ?_ hro
 simp only [Tryz.ntmps236,List.size_toArray,List.length_cons,List.length_nil,Nat.reduceAdd,Nat.reduceSub,Array.replicate_succ,Array.replicate_zero,List.push_toArray,List.append_toArray,List.nil_append,List.cons_append]
 gi_wp2
 go_ret
 exact ⟨rfl,rfl⟩
theorem grown_kept {A B : World} (h : Kept NoF A B) : A.grownBy B none := ⟨h.os,h.tape,h.output,h.size,fun k hk _ => h.block k hk (fun z => z)⟩
theorem frames_stops (n : Nat) (hn : 1 <= n) (Bn : Nat) (s : ByteArray) (hs : s.size <= 1000000000) (w : World) (hBn : Bn < w.heap.size) (hc : w.cell? ⟨Bn,0,none⟩ = some (.string s)) :
  SeqStopsK Fence.wide n Tryz.prog 256 #[.pointer (some ⟨Bn,0,none⟩)] (fun x : NextR => #[nextA x]) (KB Bn) (fun ys => ys = framesL (bl s)) (fun pre => pre <+: framesL (bl s)) (framesL (bl s)).length w := fun l J Jx W hW hJ _ hY h0 =>
 frames1_in n hn l Bn s hs J Jx W ((hW.cell (p := ⟨Bn,0,none⟩) (show Bn < w.heap.size by omega)).trans hc) (by have := hW.size;omega)
  (fun pre A B h hk => hJ pre A B none h (grown_kept hk) (fun r e => by cases e)) hY h0
theorem elemStr : Elem Tryz.prog 108 9 1 16 := by
 obtain ⟨i0,hi,hz0,hz1,hz2⟩ := info_parts (show (Tryz.prog.info? 9).map (fun i => (i.zero,i.size,i.bytes)) = some (some (.string ⟨#[]⟩),1,16) by kernel_rfl)
 exact ⟨Tryz.underlying108,⟨i0,_,hi,hz0,hz1,hz2,rfl⟩,by decide⟩
def appG (ts : Array TypeId) (ty : TypeId) (vs : Array Value) : Sem Value := Builtin.append_ ts ty vs
theorem append_named (ts : Array TypeId) (ty : TypeId) (vs : Array Value) : Builtin.append_ ts ty vs = appG ts ty vs := rfl
attribute [local go_sem ↓] append_named
def AllPost (w : World) (s : ByteArray) (e : Ending) (w' : World) : Prop :=
 ∃ A c,e = .returned (.tuple #[.slice A (okT (framesL (bl s))).length c,.int .i64 (endAt 0 (framesL (bl s)) : Nat),.int .i64 (endE (framesL (bl s)) : Nat)]) /\
  NewSl 9 1 w.heap.size w' A (okT (framesL (bl s))).length c (tcells (okT (framesL (bl s)))) /\ Below w.heap.size w w'
def AllI (w : World) (pre : List NextR) (W : World) : Prop :=
 (∃ A c,Has W (w.heap.size + 3) 108 #[.slice A (okT pre).length c] /\ NewSl 9 1 (w.heap.size + 6) W A (okT pre).length c (tcells (okT pre)) /\ Has W (w.heap.size + 4) 3 #[.int .i64 (endAt 0 pre : Nat)] /\
  (Has W w.heap.size 108 #[.slice none 0 0] /\ Has W (w.heap.size + 1) 3 #[.int .i64 0] /\ Has W (w.heap.size + 2) 27 #[.int .i64 0])) /\ Below w.heap.size w W /\ w.heap.size + 6 <= W.heap.size /\ allOk pre
def RowOf (v : Value) (k : Nat) : Prop := v.ownBlock = some k
theorem keepsFrom_of_kept {F : Nat -> Prop} {B : Nat} {W W' : World} (h : Kept F W W') (hF : ∀ k,F k -> B <= k -> ∀ o,W.heap[k]? = some o -> o.isCells = true) : KeepsFrom B W W' :=
 ⟨h.size,fun k o hB hk ho => by
  by_cases hf : F k
  ·rw [hF k hf hB o hk] at ho;cases ho
  ·exact (h.block k (Array.getElem?_eq_some_iff.1 hk).1 hf).trans hk⟩
theorem round_end {w W w' : World} {pre : List NextR} {t : List UInt8} {to : Nat} {A A' : Option Addr} {c c' : Nat} (hW : w.heap.size + 6 <= W.heap.size) (hok : allOk pre)
  (hb5 : Has W (w.heap.size + 3) 108 #[.slice A (okT pre).length c]) (hrow : NewSl 9 1 (w.heap.size + 6) W A (okT pre).length c (tcells (okT pre))) (hb6 : Has W (w.heap.size + 4) 3 #[.int .i64 (endAt 0 pre : Nat)])
  (hres : Has W w.heap.size 108 #[.slice none 0 0] /\ Has W (w.heap.size + 1) 3 #[.int .i64 0] /\ Has W (w.heap.size + 2) 27 #[.int .i64 0]) (hB : Below w.heap.size w W)
  (hown : w'.ownsRow 0 9 1 (.slice A' ((okT pre).length + 1) c') ((okT pre).length + 1) (tcells (okT pre) ++ [.string (ofL t)])) (hgr : ((W.alloc (.cells #[.string (ofL t)] 9)).drew).grownBy w' (Value.slice A (okT pre).length c).ownBlock)
  (hbl : (Value.slice A' ((okT pre).length + 1) c').ownBlock = (Value.slice A (okT pre).length c).ownBlock \/ (Value.slice A' ((okT pre).length + 1) c').ownBlock = some ((W.alloc (.cells #[.string (ofL t)] 9)).drew).heap.size) :
  KeepsFrom (w.heap.size + 6) W ((w'.setCell ⟨w.heap.size + 3,0,none⟩ (.slice A' ((okT pre).length + 1) c')).setCell ⟨w.heap.size + 4,0,none⟩ (.int .i64 (to : Int))) /\ KB (w.heap.size + 5) W ((w'.setCell ⟨w.heap.size + 3,0,none⟩ (.slice A' ((okT pre).length + 1) c')).setCell ⟨w.heap.size + 4,0,none⟩ (.int .i64 (to : Int))) /\
   AllI w (pre ++ [.ok t to]) ((w'.setCell ⟨w.heap.size + 3,0,none⟩ (.slice A' ((okT pre).length + 1) c')).setCell ⟨w.heap.size + 4,0,none⟩ (.int .i64 (to : Int))) := by
 obtain ⟨k1,k2,k3⟩ := okT_ok hok t to
 have hkg : Kept (fun k => RowOf (.slice A (okT pre).length c) k) W w' := Kept.grown ((Kept.refl _ W).alloc _).drew hgr (fun k hk => .inl hk)
 have hne3 : ¬ RowOf (.slice A (okT pre).length c) (w.heap.size + 3) := fun h => by have := hrow.2 _ h;omega
 have hne4 : ¬ RowOf (.slice A (okT pre).length c) (w.heap.size + 4) := fun h => by have := hrow.2 _ h;omega
 have hlow : ∀ k,k < w.heap.size + 6 -> ¬ RowOf (.slice A (okT pre).length c) k := fun k hk h => by have := hrow.2 _ h;omega
 have q3 := hb5.kept hkg hne3
 have q4 := hb6.kept hkg hne4
 have r3 : Has ((w'.setCell ⟨w.heap.size + 3,0,none⟩ (.slice A' ((okT pre).length + 1) c')).setCell ⟨w.heap.size + 4,0,none⟩ (.int .i64 (to : Int))) (w.heap.size + 3) 108 #[.slice A' ((okT pre).length + 1) c'] := (q3.put_of rfl).past (by omega)
 have r4 : Has ((w'.setCell ⟨w.heap.size + 3,0,none⟩ (.slice A' ((okT pre).length + 1) c')).setCell ⟨w.heap.size + 4,0,none⟩ (.int .i64 (to : Int))) (w.heap.size + 4) 3 #[.int .i64 (to : Int)] := (q4.past (by omega)).put_of rfl
 have hkf : Kept (fun k => k = w.heap.size + 3 \/ k = w.heap.size + 4) w' ((w'.setCell ⟨w.heap.size + 3,0,none⟩ (.slice A' ((okT pre).length + 1) c')).setCell ⟨w.heap.size + 4,0,none⟩ (.int .i64 (to : Int))) := ((Kept.refl _ w').put (.inl (.inl rfl))).put (.inl (.inr rfl))
 have hk : Kept (fun k => k = w.heap.size + 3 \/ k = w.heap.size + 4 \/ RowOf (.slice A (okT pre).length c) k) W ((w'.setCell ⟨w.heap.size + 3,0,none⟩ (.slice A' ((okT pre).length + 1) c')).setCell ⟨w.heap.size + 4,0,none⟩ (.int .i64 (to : Int))) :=
  (hkg.mono (fun k h => .inr (.inr h))).then (hkf.mono (fun k h => by rcases h with h | h;exact .inl h;exact .inr (.inl h)))
 have hnew : ∀ k,RowOf (.slice A' ((okT pre).length + 1) c') k -> w.heap.size + 6 <= k := fun k h => by
  rcases hbl with e | e
  ·exact hrow.2 k (e.symm.trans h)
  ·have h9 := e.symm.trans h
   injection h9 with h9
   have h8 : ((W.alloc (.cells #[.string (ofL t)] 9)).drew).heap.size = W.heap.size + 1 := by simp
   omega
 have hres' : ∀ k tt cs,k < w.heap.size + 3 -> Has W k tt cs -> Has ((w'.setCell ⟨w.heap.size + 3,0,none⟩ (.slice A' ((okT pre).length + 1) c')).setCell ⟨w.heap.size + 4,0,none⟩ (.int .i64 (to : Int))) k tt cs := fun k tt cs hk3 hh => hh.kept hk (fun h => by
  rcases h with h | h | h
  ·omega
  ·omega
  ·exact hlow k (by omega) h)
 refine ⟨keepsFrom_of_kept hk (fun k hF hB6 o ho => ?_),⟨hk.size,fun hl => hk.block _ hl (fun h => ?_)⟩,⟨A',c',?_,⟨?_,?_⟩,?_,hres' _ _ _ (by omega) hres.1,hres' _ _ _ (by omega) hres.2.1,hres' _ _ _ (by omega) hres.2.2⟩,?_,Nat.le_trans hW hk.size,k3⟩
 ·rcases hF with h | h | h
  ·omega
  ·omega
  ·obtain ⟨cs,hh⟩ : ∃ cs,Has W k 9 cs := by
    rcases hrow.1.2 with ⟨h2,_⟩ | ⟨g,cap,cur,hv,_,hh,_⟩
    ·rw [h2] at h;cases h
    ·rw [hv] at h
     obtain rfl : g = k := by simpa [RowOf,Value.ownBlock] using h
     exact ⟨_,hh⟩
   unfold Has at hh
   rw [hh] at ho
   cases ho
   rfl
 ·rcases h with h | h | h
  ·omega
  ·omega
  ·exact hlow _ (by omega) h
 ·rw [k1,List.length_append];exact r3
 ·rw [k1,List.length_append]
  have e1 : tcells (okT pre ++ [t]) = tcells (okT pre) ++ [.string (ofL t)] := by simp [tcells]
  rw [e1]
  exact own_kept hown hkf (fun g hg h => by
   have := hnew g hg
   rcases h with h | h <;> omega)
 ·intro k h
  rw [k1,List.length_append] at h
  exact hnew k h
 ·rw [k2];exact r4
 ·exact hB.trans (hk.below hB.size (fun k h => by
   rcases h with h | h | h
   ·omega
   ·omega
   ·have := hrow.2 k h;omega))
theorem one_str (x : ByteArray) : ∀ u ∈ [Value.string x],u.oneCell' = true := by
 intro u hu
 obtain rfl : u = .string x := by simpa using hu
 rfl
def AllX (w : World) (pre : List NextR) (W : World) : Prop :=
 ∃ p e A c,pre = p ++ [.bad e] /\ allOk p /\ Has W w.heap.size 108 #[.slice A (okT p).length c] /\ Has W (w.heap.size + 1) 3 #[.int .i64 (endAt 0 p : Nat)] /\ Has W (w.heap.size + 2) 27 #[.int .i64 (codeE e : Nat)] /\
  NewSl 9 1 (w.heap.size + 6) W A (okT p).length c (tcells (okT p)) /\ Below w.heap.size w W
theorem own_has {w : World} {base k size n : Nat} {e : TypeId} {v : Value} {xs : List Value} (h : w.ownsRow base e size v n xs) (hk : v.ownBlock = some k) : ∃ cs,Has w k e cs := by
 rcases h.2 with ⟨rfl,_⟩ | ⟨g,cap,cur,rfl,_,hh,_⟩
 ·simp [Value.ownBlock] at hk
 ·obtain rfl : g = k := by simpa [Value.ownBlock] using hk
  exact ⟨cur,hh⟩
theorem has_not {W : World} {row : Option Nat} {k : Nat} {tt : TypeId} {cs : Array Value} (h : Has W k tt cs) (hr : ∀ r,row = some r -> ∃ o : Obj,W.heap[r]? = some o /\ o.isCells = false) : ¬ row = some k := fun e => by
 obtain ⟨o,ho,hc⟩ := hr k e
 unfold Has at h
 rw [h] at ho
 cases ho
 cases hc
theorem newsl_row {W W' : World} {row : Option Nat} {e : TypeId} {size B n c : Nat} {A : Option Addr} {xs : List Value} (h : NewSl e size B W A n c xs) (hk : Kept (fun k => row = some k) W W') (hr : ∀ r,row = some r -> ∃ o : Obj,W.heap[r]? = some o /\ o.isCells = false) : NewSl e size B W' A n c xs :=
 ⟨own_kept h.1 hk (fun g hg e => by
  obtain ⟨cs,hh⟩ := own_has h.1 hg
  exact has_not hh hr e),h.2⟩
theorem allI_own (w : World) (B : Nat) (hB : w.heap.size + 6 <= B) : OwnFrom B (AllI w) := fun pre W W' row h hg hr => by
 obtain ⟨⟨A,c,h5,hrow,h6,r0,r1,r2⟩,hb,hw,hok⟩ := h
 have hr2 : ∀ r,row = some r -> ∃ o : Obj,W.heap[r]? = some o /\ o.isCells = false := fun r e => (hr r e).2
 have hk : Kept (fun k => row = some k) W W' := (Kept.refl _ W).grownBy hg (fun k hk => .inl hk)
 exact ⟨⟨A,c,h5.kept hk (has_not h5 hr2),newsl_row hrow hk hr2,h6.kept hk (has_not h6 hr2),r0.kept hk (has_not r0 hr2),r1.kept hk (has_not r1 hr2),r2.kept hk (has_not r2 hr2)⟩,
  hb.trans (hk.below hb.size (fun k h => by have := (hr k h).1;omega)),Nat.le_trans hw hk.size,hok⟩
theorem allX_own (w : World) (B : Nat) (hB : w.heap.size + 6 <= B) (c : Code) : OwnFrom B (fun pre W => c = .ret /\ AllX w pre W) := fun pre W W' row h hg hr => by
 obtain ⟨hc,p,e,A,c,h1,h2,r0,r1,r2,hrow,hb⟩ := h
 have hr2 : ∀ r,row = some r -> ∃ o : Obj,W.heap[r]? = some o /\ o.isCells = false := fun r e => (hr r e).2
 have hk : Kept (fun k => row = some k) W W' := (Kept.refl _ W).grownBy hg (fun k hk => .inl hk)
 exact ⟨hc,p,e,A,c,h1,h2,r0.kept hk (has_not r0 hr2),r1.kept hk (has_not r1 hr2),r2.kept hk (has_not r2 hr2),newsl_row hrow hk hr2,hb.trans (hk.below hb.size (fun k h => by have := (hr k h).1;omega))⟩
theorem all_results (W : World) (g : Nat) (A : Option Addr) (m c : Nat) (x y : Int) (h0 : Has W g 108 #[.slice A m c]) (h1 : Has W (g + 1) 3 #[.int .i64 x]) (h2 : Has W (g + 2) 27 #[.int .i64 y]) (tmps : Array Value)
  (p0 : tmps.getD 2 undef = .pointer (some ⟨g,0,none⟩)) (p1 : tmps.getD 3 undef = .pointer (some ⟨g + 1,0,none⟩)) (p2 : tmps.getD 4 undef = .pointer (some ⟨g + 2,0,none⟩)) :
  (results Tryz.f174 tmps).run Tryz.prog W = .ok (.tuple #[.slice A m c,.int .i64 x,.int .i64 y]) W := by
 have c0 : W.cell? ⟨g,0,none⟩ = some (.slice A m c) := h0.cell 0
 have c1 : W.cell? ⟨g + 1,0,none⟩ = some (.int .i64 x) := h1.cell 0
 have c2 : W.cell? ⟨g + 2,0,none⟩ = some (.int .i64 y) := h2.cell 0
 have e : Tryz.f174.results = #[.cell 2 108,.cell 3 3,.cell 4 27] := rfl
 have q0 : tmps[2]?.getD undef = .pointer (some ⟨g,0,none⟩) := by simpa using p0
 have q1 : tmps[3]?.getD undef = .pointer (some ⟨g + 1,0,none⟩) := by simpa using p1
 have q2 : tmps[4]?.getD undef = .pointer (some ⟨g + 2,0,none⟩) := by simpa using p2
 simp only [results,e]
 simp [Sem.run_bind,Result.andThen,q0,q1,q2,asAddr,go_sem,c0,c1,c2]
theorem has_putd {W : World} {g D : Nat} {tt : TypeId} {cs : Array Value} {l : Option (List Deferred)} (h : Has W g tt cs) (hK : W.heap[D]? = some (.deferred l)) (o' : Obj) : Has (W.putObj D o') g tt cs := by
 have hne : g ≠ D := by
  rintro rfl
  unfold Has at h
  rw [hK] at h
  cases h
 unfold Has at h ⊢
 rw [World.putObj_heap_other hne]
 exact h
theorem fall_end {w W : World} {s : ByteArray} {D : Nat} {l : Option (List Deferred)} {A : Option Addr} {c : Nat} (r0 : Has W w.heap.size 108 #[.slice A (okT (framesL (bl s))).length c]) (r1 : Has W (w.heap.size + 1) 3 #[.int .i64 (endAt 0 (framesL (bl s)) : Nat)])
  (r2 : Has W (w.heap.size + 2) 27 #[.int .i64 (endE (framesL (bl s)) : Nat)]) (hrow : NewSl 9 1 (w.heap.size + 6) W A (okT (framesL (bl s))).length c (tcells (okT (framesL (bl s))))) (hB : Below w.heap.size w W) (hD : w.heap.size <= D)
  (hK : W.heap[D]? = some (.deferred l)) (l' : Option (List Deferred)) (tmps : Array Value)
  (p0 : tmps.getD 2 undef = .pointer (some ⟨w.heap.size,0,none⟩)) (p1 : tmps.getD 3 undef = .pointer (some ⟨w.heap.size + 1,0,none⟩)) (p2 : tmps.getD 4 undef = .pointer (some ⟨w.heap.size + 2,0,none⟩)) :
  ∃ v,(results Tryz.f174 tmps).run Tryz.prog (W.putObj D (.deferred l')) = .ok v (W.putObj D (.deferred l')) /\ AllPost w s (.returned v) (W.putObj D (.deferred l')) :=
 ⟨_,all_results _ _ _ _ _ _ _ (has_putd r0 hK _) (has_putd r1 hK _) (has_putd r2 hK _) tmps p0 p1 p2,A,c,rfl,
  ⟨ownsRow_putObj hrow.1 _ hK rfl,fun g hg => Nat.le_trans (by omega) (hrow.2 g hg)⟩,hB.trans (belowK_b (w := w) (Nat.le_refl _) W D _ _ hD hK rfl rfl)⟩
theorem fall_any (w : World) (s : ByteArray) (hs : s.size <= 1000000) : Calls Tryz.prog 174 #[.string s] w (AllPost w s) := by
 have hfn : ∀ k,Fence.wide.fn k := fun _ => trivial
 refine (callsIn_wide (n := 5)).1 ?_
 refine callsIn_of_wp_marks Tryz.func174 rfl trivial ?_ rfl
 simp only [Tryz.ntmps174,List.size_toArray,List.length_cons,List.length_nil,Nat.reduceAdd,Nat.reduceSub,Array.replicate_succ,Array.replicate_zero,List.push_toArray,List.append_toArray,List.nil_append,List.cons_append]
 gi_wp2_with (gi_at_call 236;refine (frames_in Fence.wide _ trivial rfl _ _).mono ?_;rintro e w' ⟨rfl,rfl⟩)
 obtain ⟨W0,hW0⟩ : ∃ W0,(((((w.alloc (.cells #[.slice none 0 0] 108)).alloc (.cells #[.int .i64 0] 3)).alloc (.cells #[.int .i64 0] 27)).alloc (.cells #[.slice none 0 0] 108)).alloc (.cells #[.int .i64 0] 3)).alloc (.cells #[.string s] 9) = W0 := ⟨_,rfl⟩
 have hsz : W0.heap.size = w.heap.size + 6 := by rw [<- hW0];simp
 have hB0 : Below w.heap.size w W0 := by rw [<- hW0];exact Kept.below (F := NoF) (by (repeat' (first | (with_reducible first | exact kR0 | apply kP0 | apply kN0 | apply kD0 | apply kA0) | (right;simp;done)))) (Nat.le_refl _) (fun _ z => z.elim)
 have hbn : W0.cell? ⟨w.heap.size + 5,0,none⟩ = some (.string s) := by rw [<- hW0];exact (Has.new_at _ 9 #[.string s] (by simp)).cell 0
 have hI0 : AllI w [] W0 := by
  refine ⟨⟨none,0,?_,⟨⟨rfl,.inl ⟨rfl,rfl⟩⟩,(fun k hk => by cases hk)⟩,?_,?_,?_,?_⟩,hB0,by rw [hsz];exact Nat.le_refl _,trivial⟩
  ·rw [<- hW0];exact ((Has.new_at _ 108 #[.slice none 0 0] (by simp)).alloc _).alloc _
  ·rw [<- hW0];exact (Has.new_at _ 3 #[.int .i64 0] (by simp)).alloc _
  ·rw [<- hW0];exact (((((Has.new_at _ 108 #[.slice none 0 0] rfl).alloc _).alloc _).alloc _).alloc _).alloc _
  ·rw [<- hW0];exact ((((Has.new_at _ 3 #[.int .i64 0] (by simp)).alloc _).alloc _).alloc _).alloc _
  ·rw [<- hW0];exact (((Has.new_at _ 27 #[.int .i64 0] (by simp)).alloc _).alloc _).alloc _
 rw [hW0]
 clear hW0
 have HSZ := hZ0 hsz;clear hsz
 refine wpIn_rangeFunc_ownH rfl (by omega) (gf := 256) (lb := #[.pointer (some ⟨w.heap.size + 5,0,none⟩)]) rfl (hfn _) (enters_of Tryz.func256 (by kernel_rfl) rfl)
  (frames_stops (5 - 1) (by omega) (w.heap.size + 5) s (by omega) W0 (by rw [HSZ.out];omega) hbn) KB.trans (KB.put (by rw [HSZ.out];omega)) (Below.refl _ _) (fun _ => rfl)
  (AllI w) (fun c pre W => c = .ret /\ AllX w pre W) (allI_own w _ (by rw [HSZ.out];exact Nat.le_refl _)) (allX_own w _ (by rw [HSZ.out];exact Nat.le_refl _)) hI0
  (fun x a' W => ∃ Bx,w.heap.size + 6 <= Bx /\ Has W Bx 364 (match nextA x with | .agg cs => cs | _ => #[]) /\ a' = { tmps := #[.string s,undef,.pointer (some ⟨w.heap.size,0,none⟩),.pointer (some ⟨w.heap.size + 1,0,none⟩),.pointer (some ⟨w.heap.size + 2,0,none⟩),.pointer (some ⟨w.heap.size + 3,0,none⟩),.pointer (some ⟨w.heap.size + 4,0,none⟩),.pointer (some ⟨Bx,0,none⟩),.string s,.func (.func 256) #[] #[.pointer (some ⟨w.heap.size + 5,0,none⟩)],nextA x,undef,undef,undef,undef,undef,undef,undef,undef,undef,undef,undef,undef,undef,undef,undef,undef],defers := [] })
  (fun x a' _ X Y row hs hg hr => by
   obtain ⟨Bx,h1,h2,h3⟩ := hs
   exact ⟨Bx,h1,h2.kept ((Kept.refl _ X).grownBy hg (fun k hk => .inl hk)) (has_not h2 (fun r e => (hr r e).2)),h3⟩)
  ?assign ?body ?done ?stop
 case assign =>
  rintro l pre x W K ⟨⟨A,c,hb5,hrow,hb6,r0,r1,r2⟩,hB,hW6,hok⟩ hK
  have hkk : ∀ cs,Kept NoF W (W.alloc (.cells cs 364)) := fun cs => (Kept.refl _ W).alloc _
  have hI : ∀ cs,AllI w pre (W.alloc (.cells cs 364)) := fun cs => ⟨⟨A,c,hb5.kept (hkk cs) (fun z => z),hrow.kept (hkk cs),hb6.kept (hkk cs) (fun z => z),r0.kept (hkk cs) (fun z => z),r1.kept (hkk cs) (fun z => z),r2.kept (hkk cs) (fun z => z)⟩,hB.trans ((hkk cs).below hB.size (fun _ z => z.elim)),Nat.le_trans hW6 (hkk cs).size,hok⟩
  cases x with
  | bad e =>
   simp only [nextA]
   gi_wp2
   exact hK _ _ ((KeepsOthers.alloc _ _).from _) (KB.of_kept (hkk _)) (hI _) ⟨W.heap.size,hW6,Has.new W _ _,rfl⟩
  | ok t to =>
   simp only [nextA]
   gi_wp2
   exact hK _ _ ((KeepsOthers.alloc _ _).from _) (KB.of_kept (hkk _)) (hI _) ⟨W.heap.size,hW6,Has.new W _ _,rfl⟩
 case body =>
  rintro l pre x a' W hl ⟨r,hr⟩ ⟨⟨A,c,hb5,hrow,hb6,hres⟩,hB,hW6,hok⟩ ⟨Bx,hBx,hX,rfl⟩ hlt
  have hpl : (okT pre).length <= 1000001 := by
   have h1 := okT_len pre
   have h2 : (framesL (bl s)).length <= s.size + 1 := by unfold framesL;rw [size_bl];exact framesF_len _ _ _
   omega
  have o0 : W.cell? ⟨w.heap.size + 3,0,none⟩ = some (.slice A (okT pre).length c) := hb5.cell 0
  have o1 : W.cell? ⟨w.heap.size + 4,0,none⟩ = some (.int .i64 (endAt 0 pre : Nat)) := hb6.cell 0
  have f0 := hb5.frozen 0
  have f1 := hb6.frozen 0
  cases x with
  | bad e =>
   simp only [nextA] at hX
   have x2 : W.cell? ⟨Bx,2,none⟩ = some (.int .i64 (codeE e : Nat)) := hX.cell 2
   have hce : ((codeE e : Int) != 0) = true := by have := codeE_ne e;simpa using this
   have g0 := hres.1.frozen 0
   have g1 := hres.2.1.frozen 0
   have g2 := hres.2.2.frozen 0
   have c0 : W.cell? ⟨w.heap.size,0,none⟩ = some (.slice none 0 0) := hres.1.cell 0
   have c1 : W.cell? ⟨w.heap.size + 1,0,none⟩ = some (.int .i64 0) := hres.2.1.cell 0
   have c2 : W.cell? ⟨w.heap.size + 2,0,none⟩ = some (.int .i64 0) := hres.2.2.cell 0
   have hx3 : Bx ≠ w.heap.size := by omega
   have hx4 : Bx ≠ w.heap.size + 1 := by omega
   have hkx : Kept (fun k => k = w.heap.size \/ k = w.heap.size + 1 \/ k = w.heap.size + 2) W (((W.setCell ⟨w.heap.size,0,none⟩ (.slice A (okT pre).length c)).setCell ⟨w.heap.size + 1,0,none⟩ (.int .i64 (endAt 0 pre : Nat))).setCell ⟨w.heap.size + 2,0,none⟩ (.int .i64 (codeE e : Nat))).drew :=
    ((((Kept.refl _ W).put (.inl (.inl rfl))).put (.inl (.inr (.inl rfl)))).put (.inl (.inr (.inr rfl)))).drew
   have hfin : ∀ a,ownPostG W0.heap.size (KB (w.heap.size + 5)) (AllI w) (fun c pre W => c = .ret /\ AllX w pre W) (pre ++ [.bad e]) W Exit.ret a (((W.setCell ⟨w.heap.size,0,none⟩ (.slice A (okT pre).length c)).setCell ⟨w.heap.size + 1,0,none⟩ (.int .i64 (endAt 0 pre : Nat))).setCell ⟨w.heap.size + 2,0,none⟩ (.int .i64 (codeE e : Nat))).drew := fun a => by
    rw [HSZ.out]
    refine ⟨keepsFrom_of_kept hkx (fun k hF hB6 => by rcases hF with h | h | h <;> omega),rfl,pre,e,A,c,rfl,hok,?_,?_,?_,?_,?_⟩
    ·exact (((hres.1.put_of rfl).past (by omega)).past (by omega)).drew
    ·exact (((hres.2.1.past (by omega)).put_of rfl).past (by omega)).drew
    ·exact (((hres.2.2.past (by omega)).past (by omega)).put_of rfl).drew
    ·exact ⟨own_kept hrow.1 hkx (fun g hg h => by
      have := hrow.2 g hg
      rcases h with h | h | h <;> omega),hrow.2⟩
    ·exact hB.trans (hkx.below hB.size (fun k h => by rcases h with h | h | h <;> omega))
   have HFIN := hZ0 hfin
   clear hfin hkx hrow hres hB hb5 hb6 hX
   gi_wp2
   gi_region
   all_goals
    gi_wp2
    exact HFIN.out _
  | ok t to =>
   simp only [nextA] at hX
   have x0 : W.cell? ⟨Bx,0,none⟩ = some (.string (ofL t)) := hX.cell 0
   have x1 : W.cell? ⟨Bx,1,none⟩ = some (.int .i64 (to : Int)) := hX.cell 1
   have x2 : W.cell? ⟨Bx,2,none⟩ = some (.int .i64 0) := hX.cell 2
   have hk1 : Kept NoF W (W.alloc (.cells #[.string (ofL t)] 9)).drew := ((Kept.refl _ W).alloc _).drew
   have hap := run_append_src (P := Tryz.prog) (ty := 108) (w := (W.alloc (.cells #[.string (ofL t)] 9)).drew) elemStr (v := .slice A (okT pre).length c) (n := (okT pre).length) (xs := tcells (okT pre)) (own_kept hrow.1 hk1 (fun _ _ z => z)) (A := some ⟨W.heap.size,0,none⟩) (m := 1) (c := 1) (news := [.string (ofL t)]) (Src.of_has (cs := #[.string (ofL t)]) (Has.new W 9 #[.string (ofL t)]).drew rfl) (one_str (ofL t)) (by unfold maxLen;omega) (by omega)
   obtain ⟨v',w',hrun,hown,hgr,hbl⟩ := hap
   obtain ⟨A',c',rfl,_⟩ := own_form hown
   have hend := round_end (to := to) hW6 hok hb5 hrow hb6 hres hB hown hgr hbl
   have hkg : Kept (fun k => RowOf (.slice A (okT pre).length c) k) W w' := Kept.grown ((Kept.refl _ W).alloc _).drew hgr (fun k hk => .inl hk)
   have hne3 : ¬ RowOf (.slice A (okT pre).length c) (w.heap.size + 3) := fun h => by have := hrow.2 _ h;omega
   have hne4 : ¬ RowOf (.slice A (okT pre).length c) (w.heap.size + 4) := fun h => by have := hrow.2 _ h;omega
   have hneX : ¬ RowOf (.slice A (okT pre).length c) Bx := own_ne hrow.1 hX (by decide)
   have hrun : (appG #[108,108] 108 #[.slice A (okT pre).length c,.slice (some ⟨W.heap.size,0,none⟩) 1 1]).run Tryz.prog (W.alloc (.cells #[.string (ofL t)] 9)).drew = .ok (.slice A' ((okT pre).length + 1) c') w' := hrun
   have p1 : w'.cell? ⟨Bx,1,none⟩ = some (.int .i64 (to : Int)) := (hX.kept hkg hneX).cell 1
   have p2 : w'.cell? ⟨w.heap.size + 3,0,none⟩ = some (.slice A (okT pre).length c) := (hb5.kept hkg hne3).cell 0
   have p3 : w'.cell? ⟨w.heap.size + 4,0,none⟩ = some (.int .i64 (endAt 0 pre : Nat)) := (hb6.kept hkg hne4).cell 0
   have p4 := (hb5.kept hkg hne3).frozen 0
   have p5 := (hb6.kept hkg hne4).frozen 0
   have hlX : Bx < W.heap.size := hX.lt
   have hl3 : w.heap.size + 3 < W.heap.size := hb5.lt
   have hl4 : w.heap.size + 4 < W.heap.size := hb6.lt
   have hx3 : Bx ≠ w.heap.size + 3 := by omega
   have hx4 : Bx ≠ w.heap.size + 4 := by omega
   have hfin : ∀ a,ownPostG W0.heap.size (KB (w.heap.size + 5)) (AllI w) (fun c pre W => c = .ret /\ AllX w pre W) (pre ++ [.ok t to]) W Exit.normal a ((w'.setCell ⟨w.heap.size + 3,0,none⟩ (.slice A' ((okT pre).length + 1) c')).setCell ⟨w.heap.size + 4,0,none⟩ (.int .i64 (to : Int))) := fun a => by
    rw [HSZ.out]
    exact hend
   have HFIN := hZ0 hfin
   clear hfin hend hkg hown hgr hbl hrow hres hB hb5 hb6 hX hk1 hne3 hne4 hneX
   gi_wp2
   refine wpIn_region_round rfl (by kernel_rfl) (by simp) ?_
   refine wpAnyIn_take (i := 1) (v := ?_) rfl rfl (by kernel_rfl) (by kernel_rfl) (by kernel_rfl) (fun _ _ _ h => h) ⟨Or.inl ⟨by rfl,?_⟩,fun _ => rfl⟩ ?_
   rotate_left
   ·intro w;go_simp;try with_reducible rfl
   refine wpAnyIn_take (i := 5) (v := ?_) rfl rfl (by kernel_rfl) (by kernel_rfl) (by kernel_rfl) (fun _ _ _ h => h) ⟨Or.inl ⟨by rfl,?_⟩,fun _ => rfl⟩ ?_
   rotate_left
   ·intro w;go_simp;try with_reducible rfl
   refine wpAnyIn_ready (rs := [0,2,6]) (by kernel_rfl) (by simp) ?_
   refine AllReadyIn.cons rfl (fun K hK => ?_) ?_
   ·go_simp
    refine hK _ _ ?_
    clear hK K
    refine wpAnyIn_ready (rs := [2,6]) (by kernel_rfl) (by simp) ?_
    refine AllReadyIn.cons rfl (fun K hK => ?_) ?_
    ·go_simp
     refine hK _ _ ?_
     clear hK K
     refine wpAnyIn_ready (rs := [3,6]) (by kernel_rfl) (by simp) ?_
     refine AllReadyIn.cons rfl (fun K hK => ?_) ?_
     ·go_simp
      refine hK _ _ ?_
      clear hK K
      refine wpAnyIn_ready (rs := [4,6]) (by kernel_rfl) (by simp) ?_
      refine AllReadyIn.cons rfl (fun K hK => ?_) ?_
      ·go_simp
       refine hK _ _ ?_
       clear hK K
       refine wpAnyIn_ready (rs := [6,7]) (by kernel_rfl) (by simp) ?_
       refine AllReadyIn.cons rfl (fun K hK => ?_) ?_
       ·go_simp
        refine hK _ _ ?_
        clear hK K
        refine wpAnyIn_ready (rs := [7]) (by kernel_rfl) (by simp) ?_
        refine AllReadyIn.cons rfl (fun K hK => ?_) ?_
        ·go_simp
         refine hK _ _ ?_
         clear hK K
         refine wpAnyIn_ready (rs := [8]) (by kernel_rfl) (by simp) ?_
         refine AllReadyIn.cons rfl (fun K hK => ?_) ?_
         ·go_simp
          refine hK _ _ ?_
          clear hK K
          refine wpAnyIn_done (by kernel_rfl) ?_ _
          exact HFIN.out { tmps := #[],defers := [] }
         exact AllReadyIn.nil
        exact AllReadyIn.nil
       refine AllReadyIn.cons rfl (fun K hK => ?_) ?_
       ·go_simp
        refine hK _ _ ?_
        clear hK K
        refine wpAnyIn_ready (rs := [6]) (by kernel_rfl) (by simp) ?_
        refine AllReadyIn.cons rfl (fun K hK => ?_) ?_
        ·go_simp
         refine hK _ _ ?_
         clear hK K
         refine wpAnyIn_ready (rs := [8]) (by kernel_rfl) (by simp) ?_
         refine AllReadyIn.cons rfl (fun K hK => ?_) ?_
         ·go_simp
          refine hK _ _ ?_
          clear hK K
          refine wpAnyIn_done (by kernel_rfl) ?_ _
          exact HFIN.out { tmps := #[],defers := [] }
         exact AllReadyIn.nil
        exact AllReadyIn.nil
       exact AllReadyIn.nil
      refine AllReadyIn.cons rfl (fun K hK => ?_) ?_
      ·go_simp
       refine hK _ _ ?_
       clear hK K
       refine wpAnyIn_ready (rs := [4]) (by kernel_rfl) (by simp) ?_
       refine AllReadyIn.cons rfl (fun K hK => ?_) ?_
       ·go_simp
        refine hK _ _ ?_
        clear hK K
        refine wpAnyIn_ready (rs := [7]) (by kernel_rfl) (by simp) ?_
        refine AllReadyIn.cons rfl (fun K hK => ?_) ?_
        ·go_simp
         refine hK _ _ ?_
         clear hK K
         refine wpAnyIn_ready (rs := [8]) (by kernel_rfl) (by simp) ?_
         refine AllReadyIn.cons rfl (fun K hK => ?_) ?_
         ·go_simp
          refine hK _ _ ?_
          clear hK K
          refine wpAnyIn_done (by kernel_rfl) ?_ _
          exact HFIN.out { tmps := #[],defers := [] }
         exact AllReadyIn.nil
        exact AllReadyIn.nil
       exact AllReadyIn.nil
      exact AllReadyIn.nil
     refine AllReadyIn.cons rfl (fun K hK => ?_) ?_
     ·go_simp
      refine hK _ _ ?_
      clear hK K
      refine wpAnyIn_ready (rs := [3]) (by kernel_rfl) (by simp) ?_
      refine AllReadyIn.cons rfl (fun K hK => ?_) ?_
      ·go_simp
       refine hK _ _ ?_
       clear hK K
       refine wpAnyIn_ready (rs := [4]) (by kernel_rfl) (by simp) ?_
       refine AllReadyIn.cons rfl (fun K hK => ?_) ?_
       ·go_simp
        refine hK _ _ ?_
        clear hK K
        refine wpAnyIn_ready (rs := [7]) (by kernel_rfl) (by simp) ?_
        refine AllReadyIn.cons rfl (fun K hK => ?_) ?_
        ·go_simp
         refine hK _ _ ?_
         clear hK K
         refine wpAnyIn_ready (rs := [8]) (by kernel_rfl) (by simp) ?_
         refine AllReadyIn.cons rfl (fun K hK => ?_) ?_
         ·go_simp
          refine hK _ _ ?_
          clear hK K
          refine wpAnyIn_done (by kernel_rfl) ?_ _
          exact HFIN.out { tmps := #[],defers := [] }
         exact AllReadyIn.nil
        exact AllReadyIn.nil
       exact AllReadyIn.nil
      exact AllReadyIn.nil
     exact AllReadyIn.nil
    refine AllReadyIn.cons rfl (fun K hK => ?_) ?_
    ·go_simp
     refine hK _ _ ?_
     clear hK K
     refine wpAnyIn_ready (rs := [2]) (by kernel_rfl) (by simp) ?_
     refine AllReadyIn.cons rfl (fun K hK => ?_) ?_
     ·go_simp
      refine hK _ _ ?_
      clear hK K
      refine wpAnyIn_ready (rs := [3]) (by kernel_rfl) (by simp) ?_
      refine AllReadyIn.cons rfl (fun K hK => ?_) ?_
      ·go_simp
       refine hK _ _ ?_
       clear hK K
       refine wpAnyIn_ready (rs := [4]) (by kernel_rfl) (by simp) ?_
       refine AllReadyIn.cons rfl (fun K hK => ?_) ?_
       ·go_simp
        refine hK _ _ ?_
        clear hK K
        refine wpAnyIn_ready (rs := [7]) (by kernel_rfl) (by simp) ?_
        refine AllReadyIn.cons rfl (fun K hK => ?_) ?_
        ·go_simp
         refine hK _ _ ?_
         clear hK K
         refine wpAnyIn_ready (rs := [8]) (by kernel_rfl) (by simp) ?_
         refine AllReadyIn.cons rfl (fun K hK => ?_) ?_
         ·go_simp
          refine hK _ _ ?_
          clear hK K
          refine wpAnyIn_done (by kernel_rfl) ?_ _
          exact HFIN.out { tmps := #[],defers := [] }
         exact AllReadyIn.nil
        exact AllReadyIn.nil
       exact AllReadyIn.nil
      exact AllReadyIn.nil
     exact AllReadyIn.nil
    exact AllReadyIn.nil
   refine AllReadyIn.cons rfl (fun K hK => ?_) ?_
   ·go_simp
    refine hK _ _ ?_
    clear hK K
    refine wpAnyIn_ready (rs := [0,3,6]) (by kernel_rfl) (by simp) ?_
    refine AllReadyIn.cons rfl (fun K hK => ?_) ?_
    ·go_simp
     refine hK _ _ ?_
     clear hK K
     refine wpAnyIn_ready (rs := [3,6]) (by kernel_rfl) (by simp) ?_
     refine AllReadyIn.cons rfl (fun K hK => ?_) ?_
     ·go_simp
      refine hK _ _ ?_
      clear hK K
      refine wpAnyIn_ready (rs := [4,6]) (by kernel_rfl) (by simp) ?_
      refine AllReadyIn.cons rfl (fun K hK => ?_) ?_
      ·go_simp
       refine hK _ _ ?_
       clear hK K
       refine wpAnyIn_ready (rs := [6,7]) (by kernel_rfl) (by simp) ?_
       refine AllReadyIn.cons rfl (fun K hK => ?_) ?_
       ·go_simp
        refine hK _ _ ?_
        clear hK K
        refine wpAnyIn_ready (rs := [7]) (by kernel_rfl) (by simp) ?_
        refine AllReadyIn.cons rfl (fun K hK => ?_) ?_
        ·go_simp
         refine hK _ _ ?_
         clear hK K
         refine wpAnyIn_ready (rs := [8]) (by kernel_rfl) (by simp) ?_
         refine AllReadyIn.cons rfl (fun K hK => ?_) ?_
         ·go_simp
          refine hK _ _ ?_
          clear hK K
          refine wpAnyIn_done (by kernel_rfl) ?_ _
          exact HFIN.out { tmps := #[],defers := [] }
         exact AllReadyIn.nil
        exact AllReadyIn.nil
       refine AllReadyIn.cons rfl (fun K hK => ?_) ?_
       ·go_simp
        refine hK _ _ ?_
        clear hK K
        refine wpAnyIn_ready (rs := [6]) (by kernel_rfl) (by simp) ?_
        refine AllReadyIn.cons rfl (fun K hK => ?_) ?_
        ·go_simp
         refine hK _ _ ?_
         clear hK K
         refine wpAnyIn_ready (rs := [8]) (by kernel_rfl) (by simp) ?_
         refine AllReadyIn.cons rfl (fun K hK => ?_) ?_
         ·go_simp
          refine hK _ _ ?_
          clear hK K
          refine wpAnyIn_done (by kernel_rfl) ?_ _
          exact HFIN.out { tmps := #[],defers := [] }
         exact AllReadyIn.nil
        exact AllReadyIn.nil
       exact AllReadyIn.nil
      refine AllReadyIn.cons rfl (fun K hK => ?_) ?_
      ·go_simp
       refine hK _ _ ?_
       clear hK K
       refine wpAnyIn_ready (rs := [4]) (by kernel_rfl) (by simp) ?_
       refine AllReadyIn.cons rfl (fun K hK => ?_) ?_
       ·go_simp
        refine hK _ _ ?_
        clear hK K
        refine wpAnyIn_ready (rs := [7]) (by kernel_rfl) (by simp) ?_
        refine AllReadyIn.cons rfl (fun K hK => ?_) ?_
        ·go_simp
         refine hK _ _ ?_
         clear hK K
         refine wpAnyIn_ready (rs := [8]) (by kernel_rfl) (by simp) ?_
         refine AllReadyIn.cons rfl (fun K hK => ?_) ?_
         ·go_simp
          refine hK _ _ ?_
          clear hK K
          refine wpAnyIn_done (by kernel_rfl) ?_ _
          exact HFIN.out { tmps := #[],defers := [] }
         exact AllReadyIn.nil
        exact AllReadyIn.nil
       exact AllReadyIn.nil
      exact AllReadyIn.nil
     refine AllReadyIn.cons rfl (fun K hK => ?_) ?_
     ·go_simp
      refine hK _ _ ?_
      clear hK K
      refine wpAnyIn_ready (rs := [3]) (by kernel_rfl) (by simp) ?_
      refine AllReadyIn.cons rfl (fun K hK => ?_) ?_
      ·go_simp
       refine hK _ _ ?_
       clear hK K
       refine wpAnyIn_ready (rs := [4]) (by kernel_rfl) (by simp) ?_
       refine AllReadyIn.cons rfl (fun K hK => ?_) ?_
       ·go_simp
        refine hK _ _ ?_
        clear hK K
        refine wpAnyIn_ready (rs := [7]) (by kernel_rfl) (by simp) ?_
        refine AllReadyIn.cons rfl (fun K hK => ?_) ?_
        ·go_simp
         refine hK _ _ ?_
         clear hK K
         refine wpAnyIn_ready (rs := [8]) (by kernel_rfl) (by simp) ?_
         refine AllReadyIn.cons rfl (fun K hK => ?_) ?_
         ·go_simp
          refine hK _ _ ?_
          clear hK K
          refine wpAnyIn_done (by kernel_rfl) ?_ _
          exact HFIN.out { tmps := #[],defers := [] }
         exact AllReadyIn.nil
        exact AllReadyIn.nil
       exact AllReadyIn.nil
      exact AllReadyIn.nil
     exact AllReadyIn.nil
    refine AllReadyIn.cons rfl (fun K hK => ?_) ?_
    ·go_simp
     refine hK _ _ ?_
     clear hK K
     refine wpAnyIn_ready (rs := [0,6]) (by kernel_rfl) (by simp) ?_
     refine AllReadyIn.cons rfl (fun K hK => ?_) ?_
     ·go_simp
      refine hK _ _ ?_
      clear hK K
      refine wpAnyIn_ready (rs := [4,6]) (by kernel_rfl) (by simp) ?_
      refine AllReadyIn.cons rfl (fun K hK => ?_) ?_
      ·go_simp
       refine hK _ _ ?_
       clear hK K
       refine wpAnyIn_ready (rs := [6,7]) (by kernel_rfl) (by simp) ?_
       refine AllReadyIn.cons rfl (fun K hK => ?_) ?_
       ·go_simp
        refine hK _ _ ?_
        clear hK K
        refine wpAnyIn_ready (rs := [7]) (by kernel_rfl) (by simp) ?_
        refine AllReadyIn.cons rfl (fun K hK => ?_) ?_
        ·go_simp
         refine hK _ _ ?_
         clear hK K
         refine wpAnyIn_ready (rs := [8]) (by kernel_rfl) (by simp) ?_
         refine AllReadyIn.cons rfl (fun K hK => ?_) ?_
         ·go_simp
          refine hK _ _ ?_
          clear hK K
          refine wpAnyIn_done (by kernel_rfl) ?_ _
          exact HFIN.out { tmps := #[],defers := [] }
         exact AllReadyIn.nil
        exact AllReadyIn.nil
       refine AllReadyIn.cons rfl (fun K hK => ?_) ?_
       ·go_simp
        refine hK _ _ ?_
        clear hK K
        refine wpAnyIn_ready (rs := [6]) (by kernel_rfl) (by simp) ?_
        refine AllReadyIn.cons rfl (fun K hK => ?_) ?_
        ·go_simp
         refine hK _ _ ?_
         clear hK K
         refine wpAnyIn_ready (rs := [8]) (by kernel_rfl) (by simp) ?_
         refine AllReadyIn.cons rfl (fun K hK => ?_) ?_
         ·go_simp
          refine hK _ _ ?_
          clear hK K
          refine wpAnyIn_done (by kernel_rfl) ?_ _
          exact HFIN.out { tmps := #[],defers := [] }
         exact AllReadyIn.nil
        exact AllReadyIn.nil
       exact AllReadyIn.nil
      refine AllReadyIn.cons rfl (fun K hK => ?_) ?_
      ·go_simp
       refine hK _ _ ?_
       clear hK K
       refine wpAnyIn_ready (rs := [4]) (by kernel_rfl) (by simp) ?_
       refine AllReadyIn.cons rfl (fun K hK => ?_) ?_
       ·go_simp
        refine hK _ _ ?_
        clear hK K
        refine wpAnyIn_ready (rs := [7]) (by kernel_rfl) (by simp) ?_
        refine AllReadyIn.cons rfl (fun K hK => ?_) ?_
        ·go_simp
         refine hK _ _ ?_
         clear hK K
         refine wpAnyIn_ready (rs := [8]) (by kernel_rfl) (by simp) ?_
         refine AllReadyIn.cons rfl (fun K hK => ?_) ?_
         ·go_simp
          refine hK _ _ ?_
          clear hK K
          refine wpAnyIn_done (by kernel_rfl) ?_ _
          exact HFIN.out { tmps := #[],defers := [] }
         exact AllReadyIn.nil
        exact AllReadyIn.nil
       exact AllReadyIn.nil
      exact AllReadyIn.nil
     refine AllReadyIn.cons rfl (fun K hK => ?_) ?_
     ·go_simp
      refine hK _ _ ?_
      clear hK K
      refine wpAnyIn_ready (rs := [0]) (by kernel_rfl) (by simp) ?_
      refine AllReadyIn.cons rfl (fun K hK => ?_) ?_
      ·go_simp
       refine hK _ _ ?_
       clear hK K
       refine wpAnyIn_ready (rs := [4]) (by kernel_rfl) (by simp) ?_
       refine AllReadyIn.cons rfl (fun K hK => ?_) ?_
       ·go_simp
        refine hK _ _ ?_
        clear hK K
        refine wpAnyIn_ready (rs := [7]) (by kernel_rfl) (by simp) ?_
        refine AllReadyIn.cons rfl (fun K hK => ?_) ?_
        ·go_simp
         refine hK _ _ ?_
         clear hK K
         refine wpAnyIn_ready (rs := [8]) (by kernel_rfl) (by simp) ?_
         refine AllReadyIn.cons rfl (fun K hK => ?_) ?_
         ·go_simp
          refine hK _ _ ?_
          clear hK K
          refine wpAnyIn_done (by kernel_rfl) ?_ _
          exact HFIN.out { tmps := #[],defers := [] }
         exact AllReadyIn.nil
        exact AllReadyIn.nil
       exact AllReadyIn.nil
      exact AllReadyIn.nil
     exact AllReadyIn.nil
    refine AllReadyIn.cons rfl (fun K hK => ?_) ?_
    ·go_simp
     refine hK _ _ ?_
     clear hK K
     refine wpAnyIn_ready (rs := [0,3]) (by kernel_rfl) (by simp) ?_
     refine AllReadyIn.cons rfl (fun K hK => ?_) ?_
     ·go_simp
      refine hK _ _ ?_
      clear hK K
      refine wpAnyIn_ready (rs := [3]) (by kernel_rfl) (by simp) ?_
      refine AllReadyIn.cons rfl (fun K hK => ?_) ?_
      ·go_simp
       refine hK _ _ ?_
       clear hK K
       refine wpAnyIn_ready (rs := [4]) (by kernel_rfl) (by simp) ?_
       refine AllReadyIn.cons rfl (fun K hK => ?_) ?_
       ·go_simp
        refine hK _ _ ?_
        clear hK K
        refine wpAnyIn_ready (rs := [7]) (by kernel_rfl) (by simp) ?_
        refine AllReadyIn.cons rfl (fun K hK => ?_) ?_
        ·go_simp
         refine hK _ _ ?_
         clear hK K
         refine wpAnyIn_ready (rs := [8]) (by kernel_rfl) (by simp) ?_
         refine AllReadyIn.cons rfl (fun K hK => ?_) ?_
         ·go_simp
          refine hK _ _ ?_
          clear hK K
          refine wpAnyIn_done (by kernel_rfl) ?_ _
          exact HFIN.out { tmps := #[],defers := [] }
         exact AllReadyIn.nil
        exact AllReadyIn.nil
       exact AllReadyIn.nil
      exact AllReadyIn.nil
     refine AllReadyIn.cons rfl (fun K hK => ?_) ?_
     ·go_simp
      refine hK _ _ ?_
      clear hK K
      refine wpAnyIn_ready (rs := [0]) (by kernel_rfl) (by simp) ?_
      refine AllReadyIn.cons rfl (fun K hK => ?_) ?_
      ·go_simp
       refine hK _ _ ?_
       clear hK K
       refine wpAnyIn_ready (rs := [4]) (by kernel_rfl) (by simp) ?_
       refine AllReadyIn.cons rfl (fun K hK => ?_) ?_
       ·go_simp
        refine hK _ _ ?_
        clear hK K
        refine wpAnyIn_ready (rs := [7]) (by kernel_rfl) (by simp) ?_
        refine AllReadyIn.cons rfl (fun K hK => ?_) ?_
        ·go_simp
         refine hK _ _ ?_
         clear hK K
         refine wpAnyIn_ready (rs := [8]) (by kernel_rfl) (by simp) ?_
         refine AllReadyIn.cons rfl (fun K hK => ?_) ?_
         ·go_simp
          refine hK _ _ ?_
          clear hK K
          refine wpAnyIn_done (by kernel_rfl) ?_ _
          exact HFIN.out { tmps := #[],defers := [] }
         exact AllReadyIn.nil
        exact AllReadyIn.nil
       exact AllReadyIn.nil
      exact AllReadyIn.nil
     exact AllReadyIn.nil
    exact AllReadyIn.nil
   refine AllReadyIn.cons rfl (fun K hK => ?_) ?_
   ·go_simp
    refine hK _ _ ?_
    clear hK K
    refine wpAnyIn_ready (rs := [0,2]) (by kernel_rfl) (by simp) ?_
    refine AllReadyIn.cons rfl (fun K hK => ?_) ?_
    ·go_simp
     refine hK _ _ ?_
     clear hK K
     refine wpAnyIn_ready (rs := [2]) (by kernel_rfl) (by simp) ?_
     refine AllReadyIn.cons rfl (fun K hK => ?_) ?_
     ·go_simp
      refine hK _ _ ?_
      clear hK K
      refine wpAnyIn_ready (rs := [3]) (by kernel_rfl) (by simp) ?_
      refine AllReadyIn.cons rfl (fun K hK => ?_) ?_
      ·go_simp
       refine hK _ _ ?_
       clear hK K
       refine wpAnyIn_ready (rs := [4]) (by kernel_rfl) (by simp) ?_
       refine AllReadyIn.cons rfl (fun K hK => ?_) ?_
       ·go_simp
        refine hK _ _ ?_
        clear hK K
        refine wpAnyIn_ready (rs := [7]) (by kernel_rfl) (by simp) ?_
        refine AllReadyIn.cons rfl (fun K hK => ?_) ?_
        ·go_simp
         refine hK _ _ ?_
         clear hK K
         refine wpAnyIn_ready (rs := [8]) (by kernel_rfl) (by simp) ?_
         refine AllReadyIn.cons rfl (fun K hK => ?_) ?_
         ·go_simp
          refine hK _ _ ?_
          clear hK K
          refine wpAnyIn_done (by kernel_rfl) ?_ _
          exact HFIN.out { tmps := #[],defers := [] }
         exact AllReadyIn.nil
        exact AllReadyIn.nil
       exact AllReadyIn.nil
      exact AllReadyIn.nil
     exact AllReadyIn.nil
    refine AllReadyIn.cons rfl (fun K hK => ?_) ?_
    ·go_simp
     refine hK _ _ ?_
     clear hK K
     refine wpAnyIn_ready (rs := [0,3]) (by kernel_rfl) (by simp) ?_
     refine AllReadyIn.cons rfl (fun K hK => ?_) ?_
     ·go_simp
      refine hK _ _ ?_
      clear hK K
      refine wpAnyIn_ready (rs := [3]) (by kernel_rfl) (by simp) ?_
      refine AllReadyIn.cons rfl (fun K hK => ?_) ?_
      ·go_simp
       refine hK _ _ ?_
       clear hK K
       refine wpAnyIn_ready (rs := [4]) (by kernel_rfl) (by simp) ?_
       refine AllReadyIn.cons rfl (fun K hK => ?_) ?_
       ·go_simp
        refine hK _ _ ?_
        clear hK K
        refine wpAnyIn_ready (rs := [7]) (by kernel_rfl) (by simp) ?_
        refine AllReadyIn.cons rfl (fun K hK => ?_) ?_
        ·go_simp
         refine hK _ _ ?_
         clear hK K
         refine wpAnyIn_ready (rs := [8]) (by kernel_rfl) (by simp) ?_
         refine AllReadyIn.cons rfl (fun K hK => ?_) ?_
         ·go_simp
          refine hK _ _ ?_
          clear hK K
          refine wpAnyIn_done (by kernel_rfl) ?_ _
          exact HFIN.out { tmps := #[],defers := [] }
         exact AllReadyIn.nil
        exact AllReadyIn.nil
       exact AllReadyIn.nil
      exact AllReadyIn.nil
     refine AllReadyIn.cons rfl (fun K hK => ?_) ?_
     ·go_simp
      refine hK _ _ ?_
      clear hK K
      refine wpAnyIn_ready (rs := [0]) (by kernel_rfl) (by simp) ?_
      refine AllReadyIn.cons rfl (fun K hK => ?_) ?_
      ·go_simp
       refine hK _ _ ?_
       clear hK K
       refine wpAnyIn_ready (rs := [4]) (by kernel_rfl) (by simp) ?_
       refine AllReadyIn.cons rfl (fun K hK => ?_) ?_
       ·go_simp
        refine hK _ _ ?_
        clear hK K
        refine wpAnyIn_ready (rs := [7]) (by kernel_rfl) (by simp) ?_
        refine AllReadyIn.cons rfl (fun K hK => ?_) ?_
        ·go_simp
         refine hK _ _ ?_
         clear hK K
         refine wpAnyIn_ready (rs := [8]) (by kernel_rfl) (by simp) ?_
         refine AllReadyIn.cons rfl (fun K hK => ?_) ?_
         ·go_simp
          refine hK _ _ ?_
          clear hK K
          refine wpAnyIn_done (by kernel_rfl) ?_ _
          exact HFIN.out { tmps := #[],defers := [] }
         exact AllReadyIn.nil
        exact AllReadyIn.nil
       exact AllReadyIn.nil
      exact AllReadyIn.nil
     exact AllReadyIn.nil
    exact AllReadyIn.nil
   exact AllReadyIn.nil
 case done =>
  rintro D ys W hD rfl ⟨⟨A,c,hb5,hrow,hb6,r0,r1,r2⟩,hB,hW6,hok⟩ hK
  have o0 : W.cell? ⟨w.heap.size + 3,0,none⟩ = some (.slice A (okT (framesL (bl s))).length c) := hb5.cell 0
  have o1 : W.cell? ⟨w.heap.size + 4,0,none⟩ = some (.int .i64 (endAt 0 (framesL (bl s)) : Nat)) := hb6.cell 0
  have g0 := r0.frozen 0
  have g1 := r1.frozen 0
  have g2 := r2.frozen 0
  have c0 : W.cell? ⟨w.heap.size,0,none⟩ = some (.slice none 0 0) := r0.cell 0
  have c1 : W.cell? ⟨w.heap.size + 1,0,none⟩ = some (.int .i64 0) := r1.cell 0
  have c2 : W.cell? ⟨w.heap.size + 2,0,none⟩ = some (.int .i64 0) := r2.cell 0
  have hkd : Kept (fun k => k = w.heap.size \/ k = w.heap.size + 1 \/ k = w.heap.size + 2) W (((W.setCell ⟨w.heap.size,0,none⟩ (.slice A (okT (framesL (bl s))).length c)).setCell ⟨w.heap.size + 1,0,none⟩ (.int .i64 (endAt 0 (framesL (bl s)) : Nat))).setCell ⟨w.heap.size + 2,0,none⟩ (.int .i64 0)).drew :=
   ((((Kept.refl _ W).put (.inl (.inl rfl))).put (.inl (.inr (.inl rfl)))).put (.inl (.inr (.inr rfl)))).drew
  have hz : (0 : Int) = (endE (framesL (bl s)) : Nat) := by rw [endE_ok hok];rfl
  have hDW : w.heap.size + 6 <= D := by have := HSZ.out;omega
  have hfin : ∀ tmps : Array Value,tmps.getD 2 undef = .pointer (some ⟨w.heap.size,0,none⟩) -> tmps.getD 3 undef = .pointer (some ⟨w.heap.size + 1,0,none⟩) -> tmps.getD 4 undef = .pointer (some ⟨w.heap.size + 2,0,none⟩) ->
    bodyPostM Fence.wide 5 Tryz.prog Tryz.f174 (AllPost w s) Exit.ret { tmps := tmps,defers := [{ target := .collected D,args := #[] }] } (((W.setCell ⟨w.heap.size,0,none⟩ (.slice A (okT (framesL (bl s))).length c)).setCell ⟨w.heap.size + 1,0,none⟩ (.int .i64 (endAt 0 (framesL (bl s)) : Nat))).setCell ⟨w.heap.size + 2,0,none⟩ (.int .i64 0)).drew := by
   intro tmps p0 p1 p2
   have hKd := (hkd.block D (Array.getElem?_eq_some_iff.1 hK).1 (fun h => by rcases h with h | h | h <;> omega)).trans hK
   refine ⟨by simp,.inl ⟨_,_,rfl,run_takeDeferred hKd,?_⟩⟩
   refine fall_end (A := A) (c := c) ?_ ?_ ?_ ?_ ?_ (by omega) hKd _ tmps p0 p1 p2
   ·exact (((r0.put_of rfl).past (by omega)).past (by omega)).drew
   ·exact (((r1.past (by omega)).put_of rfl).past (by omega)).drew
   ·exact (((r2.past (by omega)).past (by omega)).put_of (by rw [<- hz];rfl)).drew
   ·exact ⟨own_kept hrow.1 hkd (fun g hg h => by
      have := hrow.2 g hg
      rcases h with h | h | h <;> omega),hrow.2⟩
   ·exact hB.trans (hkd.below hB.size (fun k h => by rcases h with h | h | h <;> omega))
  have HFIN := hZ0 hfin
  clear hfin hkd hrow r0 r1 r2 hB hb5 hb6 hz
  gi_wp2
  gi_region
  all_goals
   gi_wp2
   refine HFIN.out _ ?_ ?_ ?_ <;> rfl
 case stop =>
  rintro D cc pre W hD hSp ⟨rfl,p,e,A,c,rfl,hok,r0,r1,r2,hrow,hB⟩ hK
  refine wpIn_ret ?_
  obtain ⟨r,hr⟩ := hSp
  have hrL : framesL (bl s) = p ++ .bad e :: r := by rw [<- hr];simp
  obtain ⟨e1,e2,e3⟩ := okT_bad hok e r
  have e1' : okT (framesL (bl s)) = okT p := by rw [hrL];exact e1
  have e2' : endAt 0 (framesL (bl s)) = endAt 0 p := by rw [hrL];exact e2 0
  have e3' : endE (framesL (bl s)) = codeE e := by rw [hrL];exact e3
  rw [<- e1'] at r0 hrow
  rw [<- e2'] at r1
  rw [<- e3'] at r2
  have hDW : w.heap.size + 6 <= D := by have := HSZ.out;omega
  have hfin : ∀ tmps : Array Value,tmps.getD 2 undef = .pointer (some ⟨w.heap.size,0,none⟩) -> tmps.getD 3 undef = .pointer (some ⟨w.heap.size + 1,0,none⟩) -> tmps.getD 4 undef = .pointer (some ⟨w.heap.size + 2,0,none⟩) ->
    bodyPostM Fence.wide 5 Tryz.prog Tryz.f174 (AllPost w s) Exit.ret { tmps := tmps,defers := [{ target := .collected D,args := #[] }] } W := by
   intro tmps p0 p1 p2
   refine ⟨by simp,.inl ⟨_,_,rfl,run_takeDeferred hK,?_⟩⟩
   exact fall_end r0 r1 r2 hrow hB (by omega) hK _ tmps p0 p1 p2
  refine hfin _ ?_ ?_ ?_ <;> rfl
end Fr
end Go.Proofs.YtgffjliedjhbaaaGreat

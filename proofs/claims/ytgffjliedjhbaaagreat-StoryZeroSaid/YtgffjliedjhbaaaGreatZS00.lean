/- Part 1 of what the proof needs. -/
import Derived.Below
import Derived.Laws.OwnMore
import Derived.Laws.Rows
import Derived.Deep.Draws
import Derived.LaidEqlPtr
import Derived.Maps.AppendAt
import Derived.Deep.AppendLies
import Derived.RegionTactic
import Derived.OwnWalk
import Derived.Lib.Hide
set_option linter.unusedSimpArgs false
set_option linter.unusedVariables false
set_option maxHeartbeats 32000000
set_option maxRecDepth 100000
namespace Go.Proofs.YtgffjliedjhbaaaGreat
open Go.RowKit
def Has (w : World) (g : Nat) (t : TypeId) (cs : Array Value) : Prop := w.heap[g]? = some (.cells cs t (0,0))
structure Kept (F : Nat -> Prop) (a b : World) : Prop where
 os : b.os = a.os
 tape : b.tape = a.tape
 output : b.output = a.output
 size : a.heap.size <= b.heap.size
 block : ∀ k,k < a.heap.size -> ¬ F k -> b.heap[k]? = a.heap[k]?
def Sep (F G : Nat -> Prop) : Prop := ∀ k,F k -> ¬ G k
def NoF : Nat -> Prop := fun _ => False
def Grows (w : World) (F F' : Nat -> Prop) : Prop := ∀ k,F' k -> F k \/ w.heap.size <= k
section
variable {F G : Nat -> Prop} {a b c w w' : World} {g : Nat} {t : TypeId} {cs : Array Value}
theorem Has.lt (h : Has w g t cs) : g < w.heap.size := by
 rcases Nat.lt_or_ge g w.heap.size with hl | hl
 ·exact hl
 ·unfold Has at h
  rw [Array.getElem?_eq_none hl] at h
  cases h
theorem Has.cell (h : Has w g t cs) (i : Nat) : w.cell? ⟨g,i,none⟩ = cs[i]? := cell_of_row w g i cs t (0,0) h
theorem Has.frozen (h : Has w g t cs) (i : Nat) : w.frozen? ⟨g,i,none⟩ = false := by
 unfold Has at h
 simp [World.frozen?,h]
theorem Has.new (w : World) (t : TypeId) (cs : Array Value) : Has (w.alloc (.cells cs t)) w.heap.size t cs := heap_alloc_new w _
theorem Has.new_at (w : World) (t : TypeId) (cs : Array Value) {g : Nat} (hg : g = w.heap.size) : Has (w.alloc (.cells cs t)) g t cs := by subst hg;exact Has.new w t cs
theorem size_setCell (w : World) (p : Addr) (u : Value) : (w.setCell p u).heap.size = w.heap.size := by simp [World.setCell]
theorem size_alloc (w : World) (o : Obj) : (w.alloc o).heap.size = w.heap.size + 1 := by simp
theorem Has.drew (h : Has w g t cs) : Has w.drew g t cs := h
theorem Has.drewN (h : Has w g t cs) (n : Nat) : Has (w.drewN n) g t cs := h
theorem Has.alloc (h : Has w g t cs) (o : Obj) : Has (w.alloc o) g t cs := (Below.heap_alloc w o g h.lt).trans h
theorem Has.put (h : Has w g t cs) (i : Nat) (u : Value) : Has (w.setCell ⟨g,i,none⟩ u) g t (cs.setIfInBounds i u) := by
 unfold Has at h ⊢
 simp [World.setCell,Array.getElem?_modify,h]
theorem Has.far (h : Has w g t cs) {p : Addr} (hp : g ≠ p.block) (u : Value) : Has (w.setCell p u) g t cs := (Below.heap_setCell w p u g hp).trans h
theorem Has.past (h : Has w g t cs) {b i : Nat} {u : Value} (hp : g ≠ b) : Has (w.setCell ⟨b,i,none⟩ u) g t cs := h.far (p := ⟨b,i,none⟩) hp u
theorem Has.put_of {cs' : Array Value} {i : Nat} {u : Value} (h : Has w g t cs) (e : cs.setIfInBounds i u = cs') : Has (w.setCell ⟨g,i,none⟩ u) g t cs' := e ▸ h.put i u
theorem Has.kept (h : Has a g t cs) (hk : Kept F a b) (hg : ¬ F g) : Has b g t cs := (hk.block g h.lt hg).trans h
theorem Has.below {B : Nat} (h : Has a g t cs) (hb : Below B a b) (hg : g < B) : Has b g t cs := (hb.block g hg).trans h
theorem Has.ne {g' : Nat} {t' : TypeId} {cs' : Array Value} (h : Has w g t cs) (h' : Has w g' t' cs') (hne : t ≠ t') : g ≠ g' := by
 rintro rfl
 unfold Has at h h'
 rw [h] at h'
 injection h' with h'
 injection h' with _ e
 exact hne e
theorem Kept.refl (F : Nat -> Prop) (w : World) : Kept F w w := ⟨rfl,rfl,rfl,Nat.le_refl _,fun _ _ _ => rfl⟩
theorem Kept.trans (h : Kept F a b) (k : Kept G b c) (hs : ∀ i,G i -> F i \/ a.heap.size <= i) : Kept F a c :=
 ⟨k.os.trans h.os,k.tape.trans h.tape,k.output.trans h.output,Nat.le_trans h.size k.size,fun i hi hf =>
  (k.block i (Nat.lt_of_lt_of_le hi h.size) (fun hg => by rcases hs i hg with x | x;exact hf x;omega)).trans (h.block i hi hf)⟩
theorem Kept.then (h : Kept F a b) (k : Kept F b c) : Kept F a c := h.trans k fun _ x => .inl x
theorem Kept.mono (h : Kept F a b) (hs : ∀ i,F i -> G i) : Kept G a b := ⟨h.os,h.tape,h.output,h.size,fun i hi hg => h.block i hi fun x => hg (hs i x)⟩
theorem Kept.drew (h : Kept F a b) : Kept F a b.drew := ⟨h.os,h.tape,h.output,h.size,h.block⟩
theorem Kept.drewN (h : Kept F a b) (n : Nat) : Kept F a (b.drewN n) := ⟨h.os,h.tape,h.output,h.size,h.block⟩
theorem Kept.alloc (h : Kept F a b) (o : Obj) : Kept F a (b.alloc o) :=
 h.trans (G := NoF) ⟨rfl,rfl,rfl,by simp,fun k hk _ => Below.heap_alloc _ _ _ hk⟩ fun _ x => x.elim
theorem Kept.setCell (h : Kept F a b) {p : Addr} (hp : F p.block \/ a.heap.size <= p.block) (u : Value) : Kept F a (b.setCell p u) :=
 h.trans (G := fun k => k = p.block) ⟨rfl,rfl,rfl,by simp [World.setCell],fun k _ hk => Below.heap_setCell _ _ _ _ hk⟩ fun _ x => by rw [x];exact hp
theorem Kept.put (h : Kept F a b) {g i : Nat} {u : Value} (hp : F g \/ a.heap.size <= g) : Kept F a (b.setCell ⟨g,i,none⟩ u) := h.setCell hp u
theorem Kept.of_below {B : Nat} (h : Below B a b) (hB : ∀ k,k < a.heap.size -> ¬ F k -> k < B) : Kept F a b := ⟨h.os,h.tape,h.output,h.size,fun k hk hf => h.block k (hB k hk hf)⟩
theorem Kept.below (h : Kept F a b) {B : Nat} (hB : B <= a.heap.size) (hf : ∀ k,F k -> B <= k) : Below B a b :=
 ⟨h.os,h.tape,h.output,h.size,fun k hk => h.block k (by omega) (fun x => by have := hf k x;omega)⟩
theorem Kept.grownBy (h : Kept F a b) {row : Option Nat} (hg : b.grownBy c row) (hr : ∀ k,row = some k -> F k \/ a.heap.size <= k) : Kept F a c :=
 h.trans (G := fun k => row = some k) ⟨hg.os,hg.tape,hg.output,hg.size,fun k hk hn => hg.block k hk (fun e => hn e.symm)⟩ hr
theorem Sep.symm (h : Sep F G) : Sep G F := fun k x y => h k y x
theorem Sep.grow {F' : Nat -> Prop} (h : Sep F G) (hg : Grows w F F') (hb : ∀ k,G k -> k < w.heap.size) : Sep F' G := fun k x y => by
 rcases hg k x with z | z
 ·exact h k z y
 ·have := hb k y;omega
theorem Grows.refl (w : World) (F : Nat -> Prop) : Grows w F F := fun _ h => .inl h
theorem Grows.trans {F1 F2 F3 : Nat -> Prop} (h : Grows a F1 F2) (k : Grows b F2 F3) (hs : a.heap.size <= b.heap.size) : Grows a F1 F3 := fun i x => by
 rcases k i x with y | y
 ·exact h i y
 ·exact .inr (by omega)
end
theorem hZ0 {p : Prop} (h : p) : Hid p := Lib.hid h
section
variable {F : Nat -> Prop} {a b : World}
theorem kR0 : Kept F a a := Kept.refl F a
theorem kP0 (h : Kept F a b) {g i : Nat} {u : Value} (hp : F g \/ a.heap.size <= g) : Kept F a (b.setCell ⟨g,i,none⟩ u) := h.put hp
theorem kN0 (h : Kept F a b) (n : Nat) : Kept F a (b.drewN n) := h.drewN n
theorem kD0 (h : Kept F a b) : Kept F a b.drew := h.drew
theorem kA0 (h : Kept F a b) (o : Obj) : Kept F a (b.alloc o) := h.alloc o
end
def Src (w : World) (size : Nat) (A : Option Addr) (m : Nat) (news : List Value) : Prop :=
 news.length = m * size /\ (0 < m -> ∃ ad,A = some ad /\ ad.block < w.heap.size /\ ∀ j u,news[j]? = some u -> w.cell? (ad.add j) = some u)
theorem block_add (a : Addr) (n : Nat) : (a.add n).block = a.block := by unfold Addr.add;split <;> rfl
theorem add_add (a : Addr) (i j : Nat) : (a.add i).add j = a.add (i + j) := by
 unfold Addr.add
 by_cases hi : i = 0 <;> by_cases hj : j = 0 <;> simp [hi,hj,Nat.add_assoc]
section
variable {P : Program} {w w' : World} {size m n : Nat} {A : Option Addr} {news xs : List Value} {e : TypeId}
theorem Src.nil (w : World) (size : Nat) (A : Option Addr) : Src w size A 0 [] := ⟨by simp,fun h => absurd h (by omega)⟩
theorem Src.same (h : Src w size A m news) (hs : w.heap.size <= w'.heap.size) (hk : ∀ ad,A = some ad -> ∀ k,k = ad.block -> k < w.heap.size -> w'.heap[k]? = w.heap[k]?) : Src w' size A m news :=
 ⟨h.1,fun hm => by
  obtain ⟨ad,e,hb,hc⟩ := h.2 hm
  exact ⟨ad,e,by omega,fun j u hu => (World.cell?_of_block (w := w) (by rw [block_add];exact hk ad e _ rfl hb)).trans (hc j u hu)⟩⟩
theorem Src.kept {F : Nat -> Prop} (h : Src w size A m news) (hk : Kept F w w') (hf : ∀ ad,A = some ad -> ¬ F ad.block) : Src w' size A m news :=
 h.same hk.size fun ad e k hkb hl => hk.block k hl (by rw [hkb];exact hf ad e)
theorem Src.below (h : Src w size A m news) (hb : Below w.heap.size w w') : Src w' size A m news := h.same hb.size fun _ _ _ _ hl => hb.block _ hl
theorem Src.of_own {base c : Nat} (h : w.ownsRow base e size (.slice A n c) n xs) : Src w size A n xs := by
 refine ⟨h.1,fun hn => ?_⟩
 obtain ⟨g,cap,hv,_,hlt⟩ := h.form hn
 injection hv with hA
 subst hA
 exact ⟨_,rfl,hlt,h.cells (g := g) rfl⟩
theorem Src.take (h : Src w size A m news) {k : Nat} (hk : k <= m) : Src w size A k (news.take (k * size)) := by
 refine ⟨by rw [List.length_take,h.1];exact Nat.min_eq_left (Nat.mul_le_mul_right _ hk),fun h0 => ?_⟩
 obtain ⟨ad,e,hb,hc⟩ := h.2 (by omega)
 refine ⟨ad,e,hb,fun j u hu => hc j u ?_⟩
 rw [List.getElem?_take] at hu
 split at hu
 ·exact hu
 ·cases hu
theorem Src.drop (h : Src w size A m news) {k cap : Nat} (hk : k <= m) (hc : m <= cap) :
  Src w size (if cap = k then A else A.map (·.add (k * size))) (m - k) (news.drop (k * size)) := by
 refine ⟨by rw [List.length_drop,h.1,Nat.sub_mul],fun h0 => ?_⟩
 obtain ⟨ad,rfl,hb,hcell⟩ := h.2 (by omega)
 rw [if_neg (by omega)]
 refine ⟨ad.add (k * size),rfl,by rw [block_add];exact hb,fun j u hu => ?_⟩
 rw [add_add]
 exact hcell _ u (by rw [<- hu,List.getElem?_drop])
theorem Src.of_has {g : Nat} {t : TypeId} {cs : Array Value} (h : Has w g t cs) (hm : cs.size = m * size) : Src w size (some ⟨g,0,none⟩) m cs.toList := by
 refine ⟨by simpa using hm,fun _ => ⟨_,rfl,h.lt,fun j u hu => ?_⟩⟩
 have e1 : ((⟨g,0,none⟩ : Addr).add j) = ⟨g,j,none⟩ := by unfold Addr.add;split <;> simp_all
 rw [e1,h.cell]
 simpa using hu
theorem Has.grown {a b : World} {g : Nat} {t : TypeId} {cs : Array Value} {row : Option Nat} (h : Has a g t cs) (hg : a.grownBy b row) (hne : row ≠ some g) : Has b g t cs := (hg.block g h.lt fun e => hne e.symm).trans h
theorem Kept.grown {F : Nat -> Prop} {a b c : World} (h : Kept F a b) {row : Option Nat} (hg : b.grownBy c row) (hr : ∀ k,row = some k -> F k \/ a.heap.size <= k) : Kept F a c := h.grownBy hg hr
theorem own_kept {F : Nat -> Prop} {base : Nat} {v : Value} (h : w.ownsRow base e size v n xs) (hk : Kept F w w') (hf : ∀ g,v.ownBlock = some g -> ¬ F g) : w'.ownsRow base e size v n xs := by
 refine ⟨h.1,?_⟩
 rcases h.2 with h2 | ⟨g,cap,cur,rfl,hg,hh,r⟩
 ·exact .inl h2
 ·have hlt : g < w.heap.size := by
   rcases Nat.lt_or_ge g w.heap.size with hl | hl
   ·exact hl
   ·rw [Array.getElem?_eq_none hl] at hh;cases hh
  exact .inr ⟨g,cap,cur,rfl,hg,(hk.block g hlt (hf g rfl)).trans hh,r⟩
theorem own_empty {g : Nat} {cs : Array Value} (h : Has w g e cs) (hc : cs.size = 0) : w.ownsRow 0 e size (.slice (some ⟨g,0,none⟩) 0 0) 0 [] :=
 ⟨by simp,.inr ⟨g,0,cs,rfl,Nat.zero_le _,h,Nat.le_refl _,by decide,by simpa using hc,by simp⟩⟩
theorem own_lt {base : Nat} {v : Value} (h : w.ownsRow base e size v n xs) {g : Nat} (hg : v.ownBlock = some g) : g < w.heap.size := by
 rcases h.2 with ⟨rfl,_⟩ | ⟨g',cap,cur,rfl,_,hh,_⟩
 ·simp [Value.ownBlock] at hg
 ·obtain rfl : g' = g := by simpa [Value.ownBlock] using hg
  rcases Nat.lt_or_ge g' w.heap.size with hl | hl
  ·exact hl
  ·rw [Array.getElem?_eq_none hl] at hh;cases hh
theorem own_form {base : Nat} {v : Value} (h : w.ownsRow base e size v n xs) : ∃ A c,v = .slice A n c /\ n <= c := by
 rcases h.2 with ⟨rfl,rfl⟩ | ⟨g,cap,cur,rfl,_,_,hn,_⟩
 ·exact ⟨none,0,rfl,Nat.le_refl _⟩
 ·exact ⟨_,cap,rfl,hn⟩
theorem own_cap {base c : Nat} (h : w.ownsRow base e size (.slice A n c) n xs) : n <= c /\ c <= maxLen := by
 rcases h.2 with ⟨h1,h2⟩ | ⟨g,cap,cur,h1,_,_,hn,hm,_⟩
 ·injection h1 with _ _ h3;omega
 ·injection h1 with _ _ h3;subst h3;exact ⟨hn,hm⟩
theorem own_ne {base : Nat} {v : Value} {g : Nat} {t : TypeId} {cs : Array Value} (h : w.ownsRow base e size v n xs) (hg : Has w g t cs) (hne : e ≠ t) : v.ownBlock ≠ some g := by
 rcases h.2 with ⟨rfl,_⟩ | ⟨g',cap,cur,rfl,_,hh,_⟩
 ·simp [Value.ownBlock]
 ·intro he
  obtain rfl : g' = g := by simpa [Value.ownBlock] using he
  exact Has.ne (t := e) hh hg hne rfl
theorem new_row {b n c k m : Nat} (hk : (Value.slice (some ⟨b,0,none⟩) n c).ownBlock = some k) (h : m <= b) : m <= k := by
 simp only [Value.ownBlock,Option.some.injEq] at hk
 omega
structure Elem (P : Program) (t e : TypeId) (size bytes : Nat) : Prop where
 under : P.underlying t = some (.slice e)
 info : ∃ (i : TypeInfo) (z : Value),P.info? e = some i /\ i.zero = some z /\ i.size = size /\ i.bytes = bytes /\ z.cells.size = size
 pos : 0 < size
theorem run_append_nil {t ty : TypeId} {bytes base : Nat} (E : Elem P t e size bytes) {v : Value} (h : w.ownsRow base e size v n xs) (c : Nat) :
  (Builtin.append_ #[t,t] ty #[v,.slice none 0 c]).run P w = .ok v w := by
 obtain ⟨i,z,hi,hz,_⟩ := E.info
 rcases h.2 with ⟨rfl,rfl⟩ | ⟨g,cap,cur,rfl,_,_,hnc,_⟩
 ·simp [Builtin.append_,run_underlying E.under,sizeOf,typeInfo,hi,Builtin.lenOf,Builtin.firstCells]
 ·simp [Builtin.append_,run_underlying E.under,sizeOf,typeInfo,hi,Builtin.lenOf,Builtin.firstCells,hnc,storeCells]
theorem run_append_src {t ty : TypeId} {bytes : Nat} (E : Elem P t e size bytes) {v : Value} (hown : w.ownsRow 0 e size v n xs) {c : Nat} (hr : Src w size A m news) (h1 : ∀ u ∈ news,u.oneCell' = true)
  (h63 : n + m <= maxLen) (hbytes : (n + m) * bytes <= 140737488355328) :
  ∃ v' w',(Builtin.append_ #[t,t] ty #[v,.slice A m c]).run P w = .ok v' w' /\ w'.ownsRow 0 e size v' (n + m) (xs ++ news) /\ w.grownBy w' v.ownBlock /\ (v'.ownBlock = v.ownBlock \/ v'.ownBlock = some w.heap.size) := by
 obtain ⟨i,z,hi,hz,hs,hby,hzs⟩ := E.info
 cases A with
 | none =>
  obtain rfl : m = 0 := by
   rcases Nat.eq_zero_or_pos m with h0 | h0
   ·exact h0
   ·obtain ⟨ad,h,_⟩ := hr.2 h0
    cases h
  obtain rfl : news = [] := List.eq_nil_of_length_eq_zero (by simpa using hr.1)
  exact ⟨v,w,run_append_nil E hown c,by simpa using hown,World.grownBy.refl w _,.inl rfl⟩
 | some ad =>
  have hcells : ∀ j u,news[j]? = some u -> w.cell? (ad.add j) = some u := by
   intro j u hu
   rcases Nat.eq_zero_or_pos m with h0 | h0
   ·have hn : news.length = 0 := by rw [hr.1,h0];simp
    rw [List.eq_nil_of_length_eq_zero hn] at hu
    simp at hu
   ·obtain ⟨ad',h,_,hc⟩ := hr.2 h0
    injection h with h
    subst h
    exact hc j u hu
  obtain ⟨v',w',hrun,h2,h3,_,h5⟩ := run_append_own_at (P := P) w 0 t ty e i z size bytes E.under hi hz hs hby hzs E.pos v n xs hown ad m c news hr.1 hcells h1 h63 hbytes (Nat.zero_le _)
  exact ⟨v',w',hrun,h2,h3,h5⟩
theorem wp_append_src {o : Oper} {a : Act} {K : Act -> World -> Prop} {Q : Exit -> Act -> World -> Prop} {t : TypeId} {bytes : Nat} (E : Elem P t e size bytes) (s x : Operand)
  (ho : o.op = .call { callee := .builtin .append,args := #[s,x],argTypes := #[t,t] }) (v : Value) (hs : a.eval s = v) (hown : w.ownsRow 0 e size v n xs)
  (c : Nat) (hx : a.eval x = .slice A m c) (hr : Src w size A m news) (h1 : ∀ u ∈ news,u.oneCell' = true) (h63 : n + m <= maxLen) (hbytes : (n + m) * bytes <= 140737488355328)
  (h : ∀ A' c' w',w'.ownsRow 0 e size (.slice A' (n + m) c') (n + m) (xs ++ news) -> w.grownBy w' v.ownBlock -> ((Value.slice A' (n + m) c').ownBlock = v.ownBlock \/ (Value.slice A' (n + m) c').ownBlock = some w.heap.size) -> K (a.put o.dst (.slice A' (n + m) c')) w') : o.wp P a w K Q := by
 obtain ⟨v',w',hrun,h2,h3,h4⟩ := run_append_src (P := P) (ty := o.type) E hown (c := c) hr h1 h63 hbytes
 unfold Oper.wp execOp
 simp only [ho,resolve,invoke,builtin,Sem.run_bind,Sem.run_pure,Result.andThen_ok,List.map_toArray,List.map_cons,List.map_nil,hs,hx,hrun]
 obtain ⟨A',c',rfl,_⟩ := own_form h2
 exact h A' c' w' h2 h3 h4
theorem list_append_src {ops : Array Oper} {rest : List Oper} {o : Oper} {a : Act} {Q : Exit -> Act -> World -> Prop} {t : TypeId} {bytes : Nat} (E : Elem P t e size bytes) (s x : Operand)
  (hgd : o.guard = none) (ho : o.op = .call { callee := .builtin .append,args := #[s,x],argTypes := #[t,t] }) (v : Value) (hs : a.eval s = v) (hown : w.ownsRow 0 e size v n xs)
  (c : Nat) (hx : a.eval x = .slice A m c) (hr : Src w size A m news) (h1 : ∀ u ∈ news,u.oneCell' = true) (h63 : n + m <= maxLen) (hbytes : (n + m) * bytes <= 140737488355328)
  (h : ∀ A' c' w',w'.ownsRow 0 e size (.slice A' (n + m) c') (n + m) (xs ++ news) -> w.grownBy w' v.ownBlock -> ((Value.slice A' (n + m) c').ownBlock = v.ownBlock \/ (Value.slice A' (n + m) c').ownBlock = some w.heap.size) -> wpList P ops Q rest (a.put o.dst (.slice A' (n + m) c')) w') : wpList P ops Q (o :: rest) a w :=
 wpList_plain hgd fun _ hK => wp_append_src E s x ho v hs hown c hx hr h1 h63 hbytes fun A' c' w' h2 h3 h4 => hK _ _ (h A' c' w' h2 h3 h4)
theorem step_append_src {ops : Array Oper} {o : Oper} {a : Act} {K : Act -> World -> Prop} {Q : Exit -> Act -> World -> Prop} {X : Prop} {t : TypeId} {bytes : Nat} (E : Elem P t e size bytes) (s x : Operand)
  (hgd : o.guard = none) (ho : o.op = .call { callee := .builtin .append,args := #[s,x],argTypes := #[t,t] }) (v : Value) (hs : a.eval s = v) (hown : w.ownsRow 0 e size v n xs)
  (c : Nat) (hx : a.eval x = .slice A m c) (hr : Src w size A m news) (h1 : ∀ u ∈ news,u.oneCell' = true) (h63 : n + m <= maxLen) (hbytes : (n + m) * bytes <= 140737488355328)
  (h : ∀ A' c' w',w'.ownsRow 0 e size (.slice A' (n + m) c') (n + m) (xs ++ news) -> w.grownBy w' v.ownBlock -> ((Value.slice A' (n + m) c').ownBlock = v.ownBlock \/ (Value.slice A' (n + m) c').ownBlock = some w.heap.size) -> K (a.put o.dst (.slice A' (n + m) c')) w') :
  if Region.wanted o (yielded ops a.tmps) = true then Oper.wp P o a w K Q else X := by
 rw [if_pos (by simp [Region.wanted,hgd])]
 exact wp_append_src E s x ho v hs hown c hx hr h1 h63 hbytes h
end
end Go.Proofs.YtgffjliedjhbaaaGreat

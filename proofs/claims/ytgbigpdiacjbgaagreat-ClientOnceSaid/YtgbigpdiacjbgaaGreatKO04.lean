/- Part 5 of what the proof needs. -/
import Derived.Test.YtgbigpdiacjbgaaGreatKO02
import Derived.Test.YtgbigpdiacjbgaaGreatKO03
import Derived.KernelRfl
import Derived.WalkKit
import Derived.WalkSpells
import Derived.WalkLawsBesides
import Derived.Deep.QuietTactic
import Derived.BigQuiet
import Derived.Lib.Hide
import Derived.Lib.Strings
set_option linter.unusedSimpArgs false
set_option linter.unusedVariables false
set_option maxHeartbeats 32000000
set_option maxRecDepth 100000
namespace Go.Proofs.YtgbigpdiacjbgaaGreat
namespace Plan
abbrev Mem := Int × Int
def oneE (m : Mem) (a : List Mem) : Int :=
 if m.1 < 0 \/ 4 <= m.1 then 1 else if m.2 < 1 \/ 1073741824 < m.2 then 5 else if a.any (fun x => decide (x.1 = m.1)) then 18 else 0
def chkFrom : List Mem -> List Mem -> Int
 | _,[] => 0
 | a,m :: r => if oneE m a = 0 then chkFrom (a ++ [m]) r else oneE m a
def chk (ep : Int) (l : List Mem) : Int :=
 if ep < 1 \/ 1073741824 < ep then 5 else if l.length = 0 then 7 else if 4 < l.length then 6 else chkFrom [] l
def joinOne (l : List Mem) (m : Mem) : List Mem := if l.length < 4 /\ chk 1 [m] = 0 /\ l.any (fun x => decide (x.1 = m.1)) = false then l ++ [m] else l
def joinAll (l : List Mem) (j : List Mem) : List Mem := j.foldl joinOne l
def isFirst (g t : List Int) (m : Mem) : Bool := !g.contains m.1 && t.contains m.1
def isRest (g t : List Int) (m : Mem) : Bool := !g.contains m.1 && !t.contains m.1
def firsts (c : List Mem) (t g : List Int) : List Mem := c.filter (isFirst g t)
def rests (c : List Mem) (t g : List Int) : List Mem := c.filter (isRest g t)
def allOf (c : List Mem) (t g : List Int) (j : List Mem) : List Mem := joinAll (firsts c t g ++ rests c t g) j
def maxTs : Int := 18446744073709551615
def floorOf (f last : Int) : Int := if last = maxTs then maxTs else max f (last + 1)
def ids (l : List Mem) : List Int := (l.map (·.1)).mergeSort fun a b => decide (a <= b)
structure Next where
 e : Int
 ep : Int
 l : List Mem
 fl : Int
 t : List Int
def nextOf (ep : Int) (c : List Mem) (fl : Int) (t g : List Int) (j : List Mem) (last : Int) : Next :=
 if chk ep c ≠ 0 then ⟨chk ep c,0,[],0,[]⟩
 else if firsts c t g = [] then ⟨7,0,[],0,[]⟩
 else if allOf c t g j = c then ⟨20,0,[],0,[]⟩
 else if 1073741824 <= ep then ⟨5,0,[],0,[]⟩
 else ⟨0,ep + 1,allOf c t g j,floorOf fl last,ids (firsts c t g)⟩
structure Good (l : List Mem) : Prop where
 id : ∀ m ∈ l,0 <= m.1 /\ m.1 < 4
 ser : ∀ m ∈ l,1 <= m.2 /\ m.2 <= 1073741824
 nd : (l.map (·.1)).Nodup
theorem oneE_zero {m : Mem} {a : List Mem} (h : oneE m a = 0) : (0 <= m.1 /\ m.1 < 4) /\ (1 <= m.2 /\ m.2 <= 1073741824) /\ ∀ x ∈ a,x.1 ≠ m.1 := by
 unfold oneE at h
 split at h
 ·cases h
 ·split at h
  ·cases h
  ·split at h
   ·cases h
   ·rename_i h1 h2 h3
    refine ⟨by omega,by omega,fun x hx e => h3 ?_⟩
    simp only [List.any_eq_true,decide_eq_true_eq]
    exact ⟨x,hx,e⟩
theorem oneE_mk {m : Mem} {a : List Mem} (h1 : 0 <= m.1 /\ m.1 < 4) (h2 : 1 <= m.2 /\ m.2 <= 1073741824) (h3 : ∀ x ∈ a,x.1 ≠ m.1) : oneE m a = 0 := by
 unfold oneE
 rw [if_neg (by omega),if_neg (by omega),if_neg]
 simp only [List.any_eq_true,decide_eq_true_eq,not_exists,not_and]
 exact h3
theorem chkFrom_zero {r : List Mem} : ∀ {a : List Mem},Good a -> chkFrom a r = 0 -> Good (a ++ r) := by
 induction r with
 | nil => intro a h _;simpa using h
 | cons m r ih =>
  intro a h hc
  unfold chkFrom at hc
  split at hc
  ·rename_i h0
   obtain ⟨h1,h2,h3⟩ := oneE_zero h0
   have hg : Good (a ++ [m]) := by
    refine ⟨?_,?_,?_⟩
    ·intro x hx
     rcases List.mem_append.1 hx with hx | hx
     ·exact h.id x hx
     ·obtain rfl := List.mem_singleton.1 hx;exact h1
    ·intro x hx
     rcases List.mem_append.1 hx with hx | hx
     ·exact h.ser x hx
     ·obtain rfl := List.mem_singleton.1 hx;exact h2
    ·rw [List.map_append,List.nodup_append]
     refine ⟨h.nd,by simp,?_⟩
     intro x hx y hy e
     obtain ⟨z,hz,rfl⟩ := List.mem_map.1 hx
     simp at hy
     exact h3 z hz (e.trans hy)
   have := ih hg hc
   simpa using this
  ·rename_i h0
   exact absurd hc h0
theorem chkFrom_mk {r : List Mem} : ∀ {a : List Mem},Good (a ++ r) -> chkFrom a r = 0 := by
 induction r with
 | nil => intro a _;rfl
 | cons m r ih =>
  intro a h
  unfold chkFrom
  have h0 : oneE m a = 0 := by
   refine oneE_mk (h.id m (by simp)) (h.ser m (by simp)) fun x hx e => ?_
   have := h.nd
   rw [List.map_append,List.nodup_append] at this
   exact this.2.2 x.1 (List.mem_map.2 ⟨x,hx,rfl⟩) m.1 (by simp) e
  rw [if_pos h0]
  exact ih (by simpa using h)
theorem good_nil : Good [] := ⟨by simp,by simp,by simp⟩
theorem chk_zero {ep : Int} {l : List Mem} (h : chk ep l = 0) : (1 <= ep /\ ep <= 1073741824) /\ l ≠ [] /\ l.length <= 4 /\ Good l := by
 unfold chk at h
 split at h
 ·cases h
 ·split at h
  ·cases h
  ·split at h
   ·cases h
   ·rename_i h1 h2 h3
    refine ⟨by omega,?_,by omega,by simpa using chkFrom_zero good_nil h⟩
    rintro rfl
    exact h2 rfl
theorem chk_mk {ep : Int} {l : List Mem} (h1 : 1 <= ep /\ ep <= 1073741824) (h2 : l ≠ []) (h3 : l.length <= 4) (h4 : Good l) : chk ep l = 0 := by
 unfold chk
 rw [if_neg (by omega),if_neg (by intro e;exact h2 (List.eq_nil_of_length_eq_zero e)),if_neg (by omega)]
 exact chkFrom_mk (by simpa using h4)
theorem chk1_iff {m : Mem} : chk 1 [m] = 0 ↔ (0 <= m.1 /\ m.1 < 4) /\ (1 <= m.2 /\ m.2 <= 1073741824) := by
 constructor
 ·intro h
  have hg := (chk_zero h).2.2.2
  exact ⟨hg.id m (by simp),hg.ser m (by simp)⟩
 ·intro h
  exact chk_mk (by omega) (by simp) (by simp) ⟨by intro x hx;obtain rfl := List.mem_singleton.1 hx;exact h.1,by intro x hx;obtain rfl := List.mem_singleton.1 hx;exact h.2,by simp⟩
theorem good_filter {l : List Mem} (h : Good l) (p : Mem -> Bool) : Good (l.filter p) :=
 ⟨fun m hm => h.id m (List.mem_filter.1 hm).1,fun m hm => h.ser m (List.mem_filter.1 hm).1,h.nd.sublist (List.filter_sublist.map _)⟩
theorem mem_eq {l : List Mem} (h : (l.map (·.1)).Nodup) {x y : Mem} (hx : x ∈ l) (hy : y ∈ l) (e : x.1 = y.1) : x = y := by
 induction l with
 | nil => cases hx
 | cons a l ih =>
  rw [List.map_cons,List.nodup_cons] at h
  rcases List.mem_cons.1 hx with rfl | hx'
  ·rcases List.mem_cons.1 hy with rfl | hy'
   ·rfl
   ·exact absurd (List.mem_map.2 ⟨y,hy',e.symm⟩) h.1
  ·rcases List.mem_cons.1 hy with rfl | hy'
   ·exact absurd (List.mem_map.2 ⟨x,hx',e⟩) h.1
   ·exact ih h.2 hx' hy'
theorem good_two {l : List Mem} (h : Good l) (g t : List Int) : Good (firsts l t g ++ rests l t g) := by
 refine ⟨?_,?_,?_⟩
 ·intro m hm
  rcases List.mem_append.1 hm with hm | hm
  ·exact h.id m (List.mem_filter.1 hm).1
  ·exact h.id m (List.mem_filter.1 hm).1
 ·intro m hm
  rcases List.mem_append.1 hm with hm | hm
  ·exact h.ser m (List.mem_filter.1 hm).1
  ·exact h.ser m (List.mem_filter.1 hm).1
 ·rw [List.map_append,List.nodup_append]
  refine ⟨(good_filter h _).nd,(good_filter h _).nd,?_⟩
  intro x hx y hy e
  obtain ⟨a,ha,rfl⟩ := List.mem_map.1 hx
  obtain ⟨b,hb,rfl⟩ := List.mem_map.1 hy
  have ha' := List.mem_filter.1 ha
  have hb' := List.mem_filter.1 hb
  obtain rfl := mem_eq h.nd ha'.1 hb'.1 e
  have h1 := ha'.2
  have h2 := hb'.2
  unfold isFirst at h1
  unfold isRest at h2
  simp at h1 h2
  exact h2.2 h1.2
theorem len_two (l : List Mem) (g t : List Int) : (firsts l t g ++ rests l t g).length <= l.length := by
 unfold firsts rests
 rw [List.length_append]
 induction l with
 | nil => simp
 | cons m l ih =>
  rw [List.filter_cons,List.filter_cons]
  have : ¬ (isFirst g t m = true /\ isRest g t m = true) := by
   unfold isFirst isRest
   cases t.contains m.1 <;> simp
  split <;> split <;> simp_all <;> omega
theorem joinOne_good {l : List Mem} (h : Good l) (hl : l.length <= 4) (m : Mem) : Good (joinOne l m) /\ (joinOne l m).length <= 4 := by
 unfold joinOne
 split
 ·rename_i hc
  obtain ⟨h1,h2,h3⟩ := hc
  obtain ⟨h4,h5⟩ := chk1_iff.1 h2
  refine ⟨⟨?_,?_,?_⟩,by simp;omega⟩
  ·intro x hx
   rcases List.mem_append.1 hx with hx | hx
   ·exact h.id x hx
   ·obtain rfl := List.mem_singleton.1 hx;exact h4
  ·intro x hx
   rcases List.mem_append.1 hx with hx | hx
   ·exact h.ser x hx
   ·obtain rfl := List.mem_singleton.1 hx;exact h5
  ·rw [List.map_append,List.nodup_append]
   refine ⟨h.nd,by simp,?_⟩
   intro x hx y hy e
   obtain ⟨z,hz,rfl⟩ := List.mem_map.1 hx
   simp at hy
   have hn : ¬ (l.any fun x => decide (x.1 = m.1)) = true := by rw [h3];simp
   exact hn (List.any_eq_true.2 ⟨z,hz,by simp [e.trans hy]⟩)
 ·exact ⟨h,hl⟩
theorem joinAll_good (j : List Mem) : ∀ {l : List Mem},Good l -> l.length <= 4 -> Good (joinAll l j) /\ (joinAll l j).length <= 4 := by
 induction j with
 | nil => intro l h hl;exact ⟨h,hl⟩
 | cons m j ih =>
  intro l h hl
  obtain ⟨h1,h2⟩ := joinOne_good h hl m
  exact ih h1 h2
theorem joinAll_prefix (j : List Mem) : ∀ (l : List Mem),∃ r,joinAll l j = l ++ r /\ ∀ m ∈ r,m ∈ j := by
 induction j with
 | nil => intro l;exact ⟨[],by simp [joinAll],by simp⟩
 | cons m j ih =>
  intro l
  have e : joinAll l (m :: j) = joinAll (joinOne l m) j := rfl
  obtain ⟨r,hr,hm⟩ := ih (joinOne l m)
  rw [e,hr]
  unfold joinOne
  split
  ·exact ⟨m :: r,by simp,by intro x hx;rcases List.mem_cons.1 hx with rfl | hx;exact List.mem_cons_self;exact List.mem_cons_of_mem _ (hm x hx)⟩
  ·exact ⟨r,rfl,fun x hx => List.mem_cons_of_mem _ (hm x hx)⟩
theorem mem_ids {l : List Mem} {x : Int} : x ∈ ids l ↔ ∃ m ∈ l,m.1 = x := by
 unfold ids
 rw [List.mem_mergeSort,List.mem_map]
structure Is (ep : Int) (c : List Mem) (fl : Int) (t g : List Int) (j : List Mem) (last : Int) (d : Next) : Prop where
 chkc : chk ep c = 0
 epv : d.ep = ep + 1
 maxv : ep < 1073741824
 lv : d.l = allOf c t g j
 flv : d.fl = floorOf fl last
 tv : d.t = ids (firsts c t g)
 ne : firsts c t g ≠ []
section
variable {ep : Int} {c : List Mem} {fl : Int} {t g : List Int} {j : List Mem} {last : Int} {d : Next}
theorem Is.form (h : Is ep c fl t g j last d) : ∃ r,d.l = firsts c t g ++ (rests c t g ++ r) /\ (∀ m ∈ r,m ∈ j) /\ Good d.l /\ d.l.length <= 4 := by
 obtain ⟨h1,h2,h3,h4⟩ := chk_zero h.chkc
 obtain ⟨r,hr,hm⟩ := joinAll_prefix j (firsts c t g ++ rests c t g)
 have hg := joinAll_good j (good_two h4 g t) (Nat.le_trans (len_two c g t) h3)
 refine ⟨r,by rw [h.lv];unfold allOf;rw [hr,List.append_assoc],hm,?_⟩
 rw [h.lv]
 exact hg
theorem Is.chk (h : Is ep c fl t g j last d) : Plan.chk d.ep d.l = 0 := by
 obtain ⟨h1,h2,h3,h4⟩ := chk_zero h.chkc
 obtain ⟨r,hr,hm,hg,hl⟩ := h.form
 refine chk_mk (by have := h.maxv;rw [h.epv];omega) ?_ hl hg
 rw [hr]
 intro e
 exact h.ne (List.append_eq_nil_iff.1 e).1
theorem Is.again (h : Is ep c fl t g j last d) : nextOf d.ep d.l d.fl d.t [] [] last = ⟨20,0,[],0,[]⟩ := by
 obtain ⟨r,hr,_,hg,_⟩ := h.form
 have hfirst : firsts d.l d.t [] = firsts c t g := by
  unfold firsts
  have e1 : ∀ m ∈ d.l,isFirst [] d.t m = true ↔ m ∈ firsts c t g := by
   intro m hm
   unfold isFirst
   simp only [List.contains_nil,Bool.not_false,Bool.true_and,List.contains_iff_mem]
   rw [h.tv,mem_ids]
   constructor
   ·rintro ⟨x,hx,e⟩
    obtain rfl : x = m := mem_eq hg.nd (by rw [hr];exact List.mem_append_left _ hx) hm e
    exact hx
   ·intro hx
    exact ⟨m,hx,rfl⟩
  have hnd : d.l.Nodup := by
   have := hg.nd
   rw [List.nodup_iff_pairwise_ne,List.pairwise_map] at this
   rw [List.nodup_iff_pairwise_ne]
   exact this.imp fun h e => h (by rw [e])
  generalize isFirst [] d.t = p at e1
  rw [hr] at e1 hnd ⊢
  rw [List.filter_append]
  have e2 : (firsts c t g).filter p = firsts c t g := List.filter_eq_self.2 fun m hm => (e1 m (List.mem_append_left _ hm)).2 hm
  have e3 : (rests c t g ++ r).filter p = [] := by
   rw [List.filter_eq_nil_iff]
   intro m hm hp
   have := (e1 m (List.mem_append_right _ hm)).1 hp
   rw [List.nodup_append] at hnd
   exact hnd.2.2 m this m hm rfl
  show List.filter p (firsts c t g) ++ _ = _
  rw [e2,e3,List.append_nil]
  rfl
 have hrest : rests d.l d.t [] = rests c t g ++ r := by
  have e4 : rests d.l d.t [] = d.l.filter fun m => !isFirst [] d.t m := by
   unfold rests
   congr 1
  have e5 : firsts d.l d.t [] = d.l.filter (isFirst [] d.t) := rfl
  rw [hfirst] at e5
  have e1 : ∀ m ∈ d.l,isFirst [] d.t m = true ↔ m ∈ firsts c t g := by
   intro m hm
   rw [e5,List.mem_filter]
   exact ⟨fun h => ⟨hm,h⟩,fun h => h.2⟩
  have hnd : d.l.Nodup := by
   have := hg.nd
   rw [List.nodup_iff_pairwise_ne,List.pairwise_map] at this
   rw [List.nodup_iff_pairwise_ne]
   exact this.imp fun h e => h (by rw [e])
  rw [e4]
  generalize isFirst [] d.t = p at e1
  rw [hr] at e1 hnd ⊢
  rw [List.filter_append]
  have e2 : (firsts c t g).filter (fun m => !p m) = [] := by
   rw [List.filter_eq_nil_iff]
   intro m hm hp
   rw [(e1 m (List.mem_append_left _ hm)).2 hm] at hp
   cases hp
  have e3 : (rests c t g ++ r).filter (fun m => !p m) = rests c t g ++ r := List.filter_eq_self.2 fun m hm => by
   rw [Bool.not_eq_true',Bool.eq_false_iff]
   intro hp
   have := (e1 m (List.mem_append_right _ hm)).1 hp
   rw [List.nodup_append] at hnd
   exact hnd.2.2 m this m hm rfl
  rw [e2,e3,List.nil_append]
 unfold nextOf
 rw [if_neg (by simp [h.chk]),if_neg (by rw [hfirst];exact h.ne),if_pos]
 unfold allOf joinAll
 rw [hfirst,hrest,hr]
 rfl
end
end Plan
end Go.Proofs.YtgbigpdiacjbgaaGreat
namespace Go.Proofs.YtgbigpdiacjbgaaGreat
open Go.RowKit
set_option maxRecDepth 100000
namespace Plan
abbrev mcell (m : Mem) : List Value := [.int .i64 m.1,.int .i64 m.2]
abbrev mcells (l : List Mem) : List Value := l.flatMap mcell
abbrev magg (m : Mem) : Value := .agg #[.int .i64 m.1,.int .i64 m.2]
abbrev ints (l : List Int) : List Value := l.map (Value.int .i64)
theorem mcells_take (a : List Mem) (k : Nat) : (mcells a).take (k * 2) = mcells (a.take k) := by
 induction a generalizing k with
 | nil => simp [mcells]
 | cons x a ih =>
  cases k with
  | zero => simp [mcells]
  | succ k =>
   have e : (k + 1) * 2 = k * 2 + 1 + 1 := by omega
   show (Value.int .i64 x.1 :: Value.int .i64 x.2 :: mcells a).take ((k + 1) * 2) = Value.int .i64 x.1 :: Value.int .i64 x.2 :: mcells (a.take k)
   rw [e]
   simp [ih]
theorem mem_cells {w : World} {A : Option Addr} {m : Nat} {l : List Mem} (h : Src w 2 A m (mcells l)) (hm : 0 < m) (i : Nat) (p : Mem) (hp : l[i]? = some p) :
  ∃ ad,A = some ad /\ ad.block < w.heap.size /\ w.cell? (ad.add (i * 2)) = some (.int .i64 p.1) /\ w.cell? ⟨(ad.add (i * 2)).block,(ad.add (i * 2)).off + 1,none⟩ = some (.int .i64 p.2) := by
 obtain ⟨ad,rfl,had,hcell⟩ := h.2 hm
 have k0 : (mcells l)[i * 2]? = some (.int .i64 p.1) := by
  rw [flat_get mcell 2 (by decide) (fun _ => rfl),show i * 2 / 2 = i by omega,show i * 2 % 2 = 0 by omega,hp];rfl
 have k1 : (mcells l)[i * 2 + 1]? = some (.int .i64 p.2) := by
  rw [flat_get mcell 2 (by decide) (fun _ => rfl),show (i * 2 + 1) / 2 = i by omega,show (i * 2 + 1) % 2 = 1 by omega,hp];rfl
 refine ⟨ad,rfl,had,hcell _ _ k0,?_⟩
 rw [<- add_lit _ (by omega),add_add];exact hcell _ _ k1
theorem drop_cons {α : Type} {l : List α} {i : Nat} {a : α} (h : l[i]? = some a) : l.drop i = a :: l.drop (i + 1) := by
 obtain ⟨hl,rfl⟩ := List.getElem?_eq_some_iff.1 h
 exact List.drop_eq_getElem_cons hl
theorem take_snoc {α : Type} {l : List α} {i : Nat} {a : α} (h : l[i]? = some a) : l.take (i + 1) = l.take i ++ [a] := by
 rw [List.take_add_one,h];rfl
theorem elemMem : Elem Tryz.prog 55 175 2 16 :=
 by
 obtain ⟨i0,hi,hz0,hz1,hz2⟩ := info_parts (show (Tryz.prog.info? 175).map (fun i => (i.zero,i.size,i.bytes)) = some (some (.agg #[.int .i64 0,.int .i64 0]),2,16) by kernel_rfl)
 exact ⟨Tryz.underlying55,⟨i0,_,hi,hz0,hz1,hz2,rfl⟩,by decide⟩
end Plan
namespace Plan
abbrev cagg (ep : Int) (A : Option Addr) (n c : Nat) (fl : Int) : Value := .agg #[.int .i64 ep,.slice A n c,.int .u64 fl]
def anyId (l : List Mem) (x : Int) : Bool := l.any fun m => decide (m.1 = x)
end Plan
namespace Msg
open Plan Ops Ent Vn
structure MsgR where
 k : Int
 ep : Int
 req : Int
 ser : Int
 fl : Bool
 at' : Int
 last : Int
 n : Int
 m : Int
 p : Int
 e : Int
 key : ByteArray
 to : ByteArray
 cep : Int
 mA : Option Addr
 mc : Nat
 ms : List Mem
 cfl : Int
 bcl : Int
 breq : Int
 oA : Option Addr
 oc : Nat
 ops : List OpR
 eA : Option Addr
 ec : Nat
 es : List EntR
 sA : Option Addr
 sc : Nat
 ss : List Int
 pA : Option Addr
 pc : Nat
 ps : List PairR
def u64s (l : List Int) : List Value := l.map (Value.int .u64)
def xcell (x : MsgR) : List Value := [.int .i64 x.k,.int .i64 x.ep,.int .i64 x.req,.int .i64 x.ser,.bool x.fl,.int .u64 x.at',.int .u64 x.last,.int .i64 x.n,.int .i64 x.m,.int .i64 x.p,.int .i64 x.e,.string x.key,.string x.to,
 .int .i64 x.cep,.slice x.mA x.ms.length x.mc,.int .u64 x.cfl,.int .i64 x.bcl,.int .i64 x.breq,.slice x.oA x.ops.length x.oc,.slice x.eA x.es.length x.ec,.slice x.sA x.ss.length x.sc,.slice x.pA x.ps.length x.pc]
abbrev xagg (x : MsgR) : Value := .agg (xcell x).toArray
def xbat (x : MsgR) : Batch := ⟨x.bcl,x.breq,x.ops⟩
structure XOk (w : World) (x : MsgR) : Prop where
 m : Src w 2 x.mA x.ms.length (mcells x.ms)
 mc : x.ms.length <= x.mc
 ml : x.ms.length <= 1000
 o : Src w 3 x.oA x.ops.length (cells x.ops)
 e : Src w 4 x.eA x.es.length (ecells x.es)
 eo : ∀ y ∈ x.es,Src w 3 y.A y.ops.length (cells y.ops) /\ 0 <= y.ts /\ y.ts <= maxTs
 el : x.es.length <= 1000
 s : Src w 1 x.sA x.ss.length (u64s x.ss)
 sl : x.ss.length <= 1000
 so : ∀ y ∈ x.ss,0 <= y /\ y <= maxTs
 p : Src w 2 x.pA x.ps.length (pcells x.ps)
 pl : x.ps.length <= 1000
 t : (0 <= x.at' /\ x.at' <= maxTs) /\ (0 <= x.last /\ x.last <= maxTs) /\ (0 <= x.cfl /\ x.cfl <= maxTs)
theorem XOk.kept {w w' : World} {x : MsgR} (h : XOk w x) (hk : Kept NoF w w') : XOk w' x :=
 ⟨h.m.kept hk (fun _ _ z => z),h.mc,h.ml,h.o.kept hk (fun _ _ z => z),h.e.kept hk (fun _ _ z => z),fun y hy => ⟨(h.eo y hy).1.kept hk (fun _ _ z => z),(h.eo y hy).2⟩,h.el,h.s.kept hk (fun _ _ z => z),h.sl,h.so,h.p.kept hk (fun _ _ z => z),h.pl,h.t⟩
def partsL : List (List Nat) := [[],[67,97],[101,115,102,97,108],[101,110,109,112,114,97,69],[101,110,109,112,83],[101,66],[114,97],[114,120,101,110],[114,107,97],[114,107,116,97,110],[114,107,97,102,82],[114,97],[114,110],[114,110],[114,110],[]]
def isKind (k : Int) : Bool := decide (1 <= k /\ k <= 15)
def partsOf (k : Int) : List Nat := if 1 <= k /\ k <= 15 then partsL.getD k.toNat [] else []
def letters : List Nat := [67,97,101,115,102,108,110,109,112,114,69,83,66,120,107,116,82]
theorem parts_letters (k : Int) : ∀ c ∈ partsOf k,c ∈ letters := by
 unfold partsOf
 by_cases h : 1 <= k /\ k <= 15
 ·rw [if_pos h]
  have : k = 1 \/ k = 2 \/ k = 3 \/ k = 4 \/ k = 5 \/ k = 6 \/ k = 7 \/ k = 8 \/ k = 9 \/ k = 10 \/ k = 11 \/ k = 12 \/ k = 13 \/ k = 14 \/ k = 15 := by omega
  rcases this with rfl | rfl | rfl | rfl | rfl | rfl | rfl | rfl | rfl | rfl | rfl | rfl | rfl | rfl | rfl <;> decide
 ·rw [if_neg h];intro c hc;simp at hc
theorem parts_len (k : Int) : (partsOf k).length <= 7 := by
 unfold partsOf
 by_cases h : 1 <= k /\ k <= 15
 ·rw [if_pos h]
  have : k = 1 \/ k = 2 \/ k = 3 \/ k = 4 \/ k = 5 \/ k = 6 \/ k = 7 \/ k = 8 \/ k = 9 \/ k = 10 \/ k = 11 \/ k = 12 \/ k = 13 \/ k = 14 \/ k = 15 := by omega
  rcases this with rfl | rfl | rfl | rfl | rfl | rfl | rfl | rfl | rfl | rfl | rfl | rfl | rfl | rfl | rfl <;> decide
 ·rw [if_neg h];decide
def lets (l : List Nat) : ByteArray := ofL (byt l)
def numI (x : MsgR) (c : Nat) : Int := if c = 101 then x.ep else if c = 115 then x.ser else if c = 114 then x.req else if c = 110 then x.n else if c = 109 then x.m else x.p
def isNum (c : Nat) : Bool := decide (c = 101 \/ c = 115 \/ c = 114 \/ c = 110 \/ c = 109 \/ c = 112)
def numAt (c : Nat) : Nat := if c = 101 then 1 else if c = 115 then 3 else if c = 114 then 2 else if c = 110 then 7 else if c = 109 then 8 else 9
def firstOf {α : Type} (f : α -> Int) : List α -> Int
 | [] => 0
 | a :: l => if f a = 0 then firstOf f l else f a
theorem firstOf_at {α : Type} (f : α -> Int) {l : List α} {i : Nat} {a : α} (h : l[i]? = some a) : firstOf f (l.drop i) = if f a = 0 then firstOf f (l.drop (i + 1)) else f a := by
 obtain ⟨hi,rfl⟩ := List.getElem?_eq_some_iff.1 h
 rw [List.drop_eq_getElem_cons hi,firstOf]
theorem firstOf_zero {α : Type} {f : α -> Int} {l : List α} (h : firstOf f l = 0) : ∀ a ∈ l,f a = 0 := by
 induction l with
 | nil => intro a ha;cases ha
 | cons b l ih =>
  rw [firstOf] at h
  by_cases hb : f b = 0
  ·rw [if_pos hb] at h
   intro a ha
   rcases List.mem_cons.1 ha with rfl | ha
   ·exact hb
   ·exact ih h a ha
  ·rw [if_neg hb] at h;exact absurd h hb
def keyE (s : ByteArray) : Int := if s.size < 1 \/ 8 < s.size then 10 else 0
def pairE (p : PairR) : Int := if keyE p.key ≠ 0 then keyE p.key else if 8 < p.val.size then 3 else 0
def rngM (n : Int) : Int := if n < 0 \/ 1073741824 < n then 5 else 0
def wrongE (x : MsgR) (c : Nat) : Int :=
 if isNum c = true then rngM (numI x c)
 else if c = 120 then (if x.e < 0 \/ 21 < x.e then 1 else 0)
 else if c = 107 then (if 8 < x.key.size then 3 else 0)
 else if c = 116 then (if 8 < x.to.size then 3 else 0)
 else if c = 67 then Plan.chk x.cep x.ms
 else if c = 66 then Ops.chk (xbat x)
 else if c = 69 then (if 4 < x.es.length then 6 else firstOf (fun y => Ops.chk (bat y)) x.es)
 else if c = 83 then (if 8 < x.ss.length then 6 else 0)
 else if c = 82 then (if 32 < x.ps.length then 6 else firstOf pairE x.ps)
 else 0
def chkM (x : MsgR) : Int := if isKind x.k = true then firstOf (wrongE x) (partsOf x.k) else 11
def putC (ep : Int) (ms : List Mem) (fl : Int) : List UInt8 := put ep.toNat ++ put ms.length ++ (ms.flatMap fun m => put m.1.toNat ++ put m.2.toNat) ++ put fl.toNat
def confR (ep : Int) (ms : List Mem) (fl : Int) : ByteArray := if Plan.chk ep ms = 0 then ofL (putC ep ms fl) else emp
def batR (b : Batch) : ByteArray := if Ops.chk b = 0 then ofL (putB b) else emp
def putE (e : EntR) : List UInt8 := put e.ts.toNat ++ putT (ofL (putB (bat e)))
def entR (e : EntR) : ByteArray := if Ops.chk (bat e) = 0 then ofL (putE e) else emp
def partB (x : MsgR) (c : Nat) : List UInt8 :=
 if isNum c = true then put (numI x c).toNat
 else if c = 120 then put x.e.toNat
 else if c = 97 then put x.at'.toNat
 else if c = 108 then put x.last.toNat
 else if c = 102 then putF x.fl
 else if c = 107 then putT x.key
 else if c = 116 then putT x.to
 else if c = 67 then putT (confR x.cep x.ms x.cfl)
 else if c = 66 then putT (batR (xbat x))
 else if c = 69 then put x.es.length ++ x.es.flatMap fun y => putT (entR y)
 else if c = 83 then put x.ss.length ++ x.ss.flatMap fun y => put y.toNat
 else if c = 82 then put x.ps.length ++ x.ps.flatMap fun y => putT y.key ++ putT y.val
 else []
def putM (x : MsgR) : List UInt8 := put x.k.toNat ++ (partsOf x.k).flatMap (partB x)
def msgR (x : MsgR) : ByteArray := if chkM x = 0 then ofL (putM x) else emp
theorem putN_len {n : Nat} (h : n <= 18446744073709551615) : (put n).length <= 9 := put_le (by omega)
theorem putT_len {s : ByteArray} {m : Nat} (h : s.size <= m) (hm : m <= 18446744073709551615) : (putT s).length <= 9 + m := by
 have := putN_len (n := s.size) (by omega)
 unfold putT
 rw [List.length_append,size_bl]
 omega
theorem flatLen {α β : Type} (f : α -> List β) (l : List α) (M : Nat) (h : ∀ a ∈ l,(f a).length <= M) : (l.flatMap f).length <= l.length * M := by
 induction l with
 | nil => simp
 | cons a l ih =>
  rw [List.flatMap_cons,List.length_append,List.length_cons]
  have h1 := h a (List.mem_cons_self ..)
  have h2 := ih fun b hb => h b (List.mem_cons_of_mem _ hb)
  rw [Nat.succ_mul]
  omega
theorem putC_len {ep : Int} {ms : List Mem} {fl : Int} (h : Plan.chk ep ms = 0) (hf : 0 <= fl /\ fl <= maxTs) : (putC ep ms fl).length <= 99 := by
 obtain ⟨h1,_,h2,h3⟩ := chk_zero h
 have a1 := putN_len (n := ep.toNat) (by omega)
 have a2 := putN_len (n := ms.length) (by omega)
 have a3 := putN_len (n := fl.toNat) (by unfold maxTs at hf;omega)
 have a4 := flatLen (fun m : Mem => put m.1.toNat ++ put m.2.toNat) ms 18 (fun m hm => by
  have b1 := h3.id m hm
  have b2 := h3.ser m hm
  have c1 := putN_len (n := m.1.toNat) (by omega)
  have c2 := putN_len (n := m.2.toNat) (by omega)
  rw [List.length_append];omega)
 unfold putC
 rw [List.length_append,List.length_append,List.length_append]
 omega
theorem confR_len {ep : Int} {ms : List Mem} {fl : Int} (hf : 0 <= fl /\ fl <= maxTs) : (confR ep ms fl).size <= 99 := by
 unfold confR
 split
 ·rename_i h
  have := putC_len h hf
  rw [<- size_bl,bl_ofL];exact this
 ·decide
theorem putB_len {b : Batch} (h : Ops.chk b = 0) : (putB b).length <= 103 := by
 obtain ⟨h1,h2,h3,h4,h5,h6⟩ := chk_ok h
 have hk := chkL_ok h6
 have a1 := putN_len (n := b.cl.toNat) (by omega)
 have a2 := putN_len (n := b.req.toNat) (by omega)
 have a3 := putN_len (n := b.ops.length) (by omega)
 have a4 := flat_len b.ops (fun o ho => putO_len (hk o ho).2.1 (hk o ho).2.2.1)
 unfold putB
 rw [List.length_append,List.length_append,List.length_append]
 omega
theorem batR_len (b : Batch) : (batR b).size <= 103 := by
 unfold batR
 split
 ·rename_i h
  have := putB_len h
  rw [<- size_bl,bl_ofL];exact this
 ·decide
theorem entR_len {e : EntR} (h : 0 <= e.ts /\ e.ts <= maxTs) : (entR e).size <= 121 := by
 unfold entR
 split
 ·rename_i h0
  have a1 := putB_len h0
  have a2 := putT_len (s := ofL (putB (bat e))) (m := 103) (by rw [<- size_bl,bl_ofL];exact a1) (by omega)
  have a3 := putN_len (n := e.ts.toNat) (by unfold maxTs at h;omega)
  rw [<- size_bl,bl_ofL]
  unfold putE
  rw [List.length_append]
  omega
 ·decide
theorem partB_len {w : World} {x : MsgR} (h : XOk w x) {c : Nat} (hc : wrongE x c = 0) : (partB x c).length <= 1100 := by
 unfold partB
 unfold wrongE at hc
 obtain ⟨⟨t1,t2⟩,⟨t3,t4⟩,t5⟩ := h.t
 unfold maxTs at t2 t4
 by_cases c1 : isNum c = true
 ·rw [if_pos c1] at hc ⊢
  unfold rngM at hc
  by_cases hr : numI x c < 0 \/ 1073741824 < numI x c
  ·rw [if_pos hr] at hc;cases hc
  ·have := putN_len (n := (numI x c).toNat) (by omega);omega
 rw [if_neg c1] at hc ⊢
 by_cases c2 : c = 120
 ·rw [if_pos c2] at hc ⊢
  by_cases hr : x.e < 0 \/ 21 < x.e
  ·rw [if_pos hr] at hc;cases hc
  ·have := putN_len (n := x.e.toNat) (by omega);omega
 rw [if_neg c2] at hc ⊢
 by_cases c3 : c = 97
 ·rw [if_pos c3];have := putN_len (n := x.at'.toNat) (by omega);omega
 rw [if_neg c3]
 by_cases c4 : c = 108
 ·rw [if_pos c4];have := putN_len (n := x.last.toNat) (by omega);omega
 rw [if_neg c4]
 by_cases c5 : c = 102
 ·rw [if_pos c5];unfold putF;simp
 rw [if_neg c5]
 by_cases c6 : c = 107
 ·rw [if_pos c6] at hc ⊢
  have := putT_len (s := x.key) (m := 8) (by by_cases hr : 8 < x.key.size;rw [if_pos hr] at hc;cases hc;omega) (by omega);omega
 rw [if_neg c6] at hc ⊢
 by_cases c7 : c = 116
 ·rw [if_pos c7] at hc ⊢
  have := putT_len (s := x.to) (m := 8) (by by_cases hr : 8 < x.to.size;rw [if_pos hr] at hc;cases hc;omega) (by omega);omega
 rw [if_neg c7] at hc ⊢
 by_cases c8 : c = 67
 ·rw [if_pos c8] at hc ⊢
  have := putT_len (s := confR x.cep x.ms x.cfl) (m := 99) (confR_len t5) (by omega);omega
 rw [if_neg c8] at hc ⊢
 by_cases c9 : c = 66
 ·rw [if_pos c9] at hc ⊢
  have := putT_len (s := batR (xbat x)) (m := 103) (batR_len _) (by omega);omega
 rw [if_neg c9] at hc ⊢
 by_cases c10 : c = 69
 ·rw [if_pos c10] at hc ⊢
  by_cases hr : 4 < x.es.length
  ·rw [if_pos hr] at hc;cases hc
  ·have a1 := putN_len (n := x.es.length) (by omega)
   have a2 := flatLen (fun y => putT (entR y)) x.es 130 (fun y hy => by
    have := putT_len (s := entR y) (m := 121) (entR_len (h.eo y hy).2) (by omega);omega)
   rw [List.length_append];omega
 rw [if_neg c10] at hc ⊢
 by_cases c11 : c = 83
 ·rw [if_pos c11] at hc ⊢
  by_cases hr : 8 < x.ss.length
  ·rw [if_pos hr] at hc;cases hc
  ·have a1 := putN_len (n := x.ss.length) (by omega)
   have a2 := flatLen (fun y : Int => put y.toNat) x.ss 9 (fun y hy => by
    have b := h.so y hy
    unfold maxTs at b
    exact putN_len (by omega))
   rw [List.length_append];omega
 rw [if_neg c11] at hc ⊢
 by_cases c12 : c = 82
 ·rw [if_pos c12] at hc ⊢
  by_cases hr : 32 < x.ps.length
  ·rw [if_pos hr] at hc;cases hc
  ·rw [if_neg hr] at hc
   have hz := firstOf_zero hc
   have a1 := putN_len (n := x.ps.length) (by omega)
   have a2 := flatLen (fun y : PairR => putT y.key ++ putT y.val) x.ps 34 (fun y hy => by
    have hy0 := hz y hy
    unfold pairE keyE at hy0
    by_cases e1 : y.key.size < 1 \/ 8 < y.key.size
    ·rw [if_pos e1,if_pos (by decide)] at hy0;cases hy0
    ·rw [if_neg e1,if_neg (by decide)] at hy0
     have b1 := putT_len (s := y.key) (m := 8) (by omega) (by omega)
     have b2 := putT_len (s := y.val) (m := 8) (by by_cases e2 : 8 < y.val.size;rw [if_pos e2] at hy0;cases hy0;omega) (by omega)
     rw [List.length_append];omega)
   rw [List.length_append];omega
 rw [if_neg c12];simp
end Msg
end Go.Proofs.YtgbigpdiacjbgaaGreat
namespace Go.Proofs.YtgbigpdiacjbgaaGreat.Keys
theorem less_total (x y : List UInt8) (h : Op.bytesLess x y = false) (hne : x ≠ y) : Op.bytesLess y x = true := by
 induction x generalizing y with
 | nil => cases y with
  | nil => exact absurd rfl hne
  | cons b y => simp [Op.bytesLess] at h
 | cons a x ih => cases y with
  | nil => rfl
  | cons b y =>
   simp only [Op.bytesLess,Bool.or_eq_false_iff,Bool.and_eq_false_iff,decide_eq_false_iff_not,beq_eq_false_iff_ne] at h
   simp only [Op.bytesLess,Bool.or_eq_true,Bool.and_eq_true,decide_eq_true_eq,beq_iff_eq]
   obtain ⟨h1,h2⟩ := h
   by_cases e : a = b
   ·subst e
    rcases h2 with h2 | h2
    ·exact absurd rfl h2
    ·exact .inr ⟨rfl,ih y h2 (fun e => hne (by rw [e]))⟩
   ·rw [UInt8.lt_iff_toNat_lt] at *
    have : a.toNat ≠ b.toNat := fun k => e (UInt8.toNat_inj.1 k)
    exact .inl (by omega)
def nextAt (l : List UInt8) : Nat -> List UInt8
 | 0 => []
 | k + 1 => if l.getD k 0 < 255 then l.take k ++ [l.getD k 0 + 1] else nextAt l k
def nextL (l : List UInt8) : List UInt8 := if l.length < 8 then l ++ [0] else nextAt l 8
end Go.Proofs.YtgbigpdiacjbgaaGreat.Keys

/- Part 9 of what the proof needs. -/
import Derived.Test.YtgffjliedjhbaaaGreatZS03
import Derived.KernelRfl
import Derived.WalkKit
import Derived.WalkSpells
import Derived.WalkLawsBesides
import Derived.Deep.QuietTactic
import Derived.BigQuiet
import Derived.Lib.Hide
set_option linter.unusedSimpArgs false
set_option linter.unusedVariables false
set_option maxHeartbeats 32000000
set_option maxRecDepth 100000
namespace Go.Proofs.YtgffjliedjhbaaaGreat
namespace Plan
abbrev Mem := Int × Int
def oneE (m : Mem) (a : List Mem) : Int :=
 if m.1 < 0 \/ 4 <= m.1 then 1 else if m.2 < 1 \/ 1073741824 < m.2 then 5 else if a.any (fun x => decide (x.1 = m.1)) then 18 else 0
def chkFrom : List Mem -> List Mem -> Int
 | _,[] => 0
 | a,m :: r => if oneE m a = 0 then chkFrom (a ++ [m]) r else oneE m a
def chk (ep : Int) (l : List Mem) : Int :=
 if ep < 1 \/ 1073741824 < ep then 5 else if l.length = 0 then 7 else if 4 < l.length then 6 else chkFrom [] l
def joinOne (l : List Mem) (m : Mem) : List Mem := if l.length < 4 /\ chk 1 [m] = 0 /\ l.any (fun x => decide (x.1 = m.1)) = false then l ++ [m] else l
def joinAll (l : List Mem) (j : List Mem) : List Mem := j.foldl joinOne l
def isFirst (g t : List Int) (m : Mem) : Bool := !g.contains m.1 && t.contains m.1
def isRest (g t : List Int) (m : Mem) : Bool := !g.contains m.1 && !t.contains m.1
def firsts (c : List Mem) (t g : List Int) : List Mem := c.filter (isFirst g t)
def rests (c : List Mem) (t g : List Int) : List Mem := c.filter (isRest g t)
def allOf (c : List Mem) (t g : List Int) (j : List Mem) : List Mem := joinAll (firsts c t g ++ rests c t g) j
def maxTs : Int := 18446744073709551615
def floorOf (f last : Int) : Int := if last = maxTs then maxTs else max f (last + 1)
def ids (l : List Mem) : List Int := (l.map (·.1)).mergeSort fun a b => decide (a <= b)
structure Next where
 e : Int
 ep : Int
 l : List Mem
 fl : Int
 t : List Int
def nextOf (ep : Int) (c : List Mem) (fl : Int) (t g : List Int) (j : List Mem) (last : Int) : Next :=
 if chk ep c ≠ 0 then ⟨chk ep c,0,[],0,[]⟩
 else if firsts c t g = [] then ⟨7,0,[],0,[]⟩
 else if allOf c t g j = c then ⟨20,0,[],0,[]⟩
 else if 1073741824 <= ep then ⟨5,0,[],0,[]⟩
 else ⟨0,ep + 1,allOf c t g j,floorOf fl last,ids (firsts c t g)⟩
structure Good (l : List Mem) : Prop where
 id : ∀ m ∈ l,0 <= m.1 /\ m.1 < 4
 ser : ∀ m ∈ l,1 <= m.2 /\ m.2 <= 1073741824
 nd : (l.map (·.1)).Nodup
theorem oneE_zero {m : Mem} {a : List Mem} (h : oneE m a = 0) : (0 <= m.1 /\ m.1 < 4) /\ (1 <= m.2 /\ m.2 <= 1073741824) /\ ∀ x ∈ a,x.1 ≠ m.1 := by
 unfold oneE at h
 split at h
 ·cases h
 ·split at h
  ·cases h
  ·split at h
   ·cases h
   ·rename_i h1 h2 h3
    refine ⟨by omega,by omega,fun x hx e => h3 ?_⟩
    simp only [List.any_eq_true,decide_eq_true_eq]
    exact ⟨x,hx,e⟩
theorem oneE_mk {m : Mem} {a : List Mem} (h1 : 0 <= m.1 /\ m.1 < 4) (h2 : 1 <= m.2 /\ m.2 <= 1073741824) (h3 : ∀ x ∈ a,x.1 ≠ m.1) : oneE m a = 0 := by
 unfold oneE
 rw [if_neg (by omega),if_neg (by omega),if_neg]
 simp only [List.any_eq_true,decide_eq_true_eq,not_exists,not_and]
 exact h3
theorem chkFrom_zero {r : List Mem} : ∀ {a : List Mem},Good a -> chkFrom a r = 0 -> Good (a ++ r) := by
 induction r with
 | nil => intro a h _;simpa using h
 | cons m r ih =>
  intro a h hc
  unfold chkFrom at hc
  split at hc
  ·rename_i h0
   obtain ⟨h1,h2,h3⟩ := oneE_zero h0
   have hg : Good (a ++ [m]) := by
    refine ⟨?_,?_,?_⟩
    ·intro x hx
     rcases List.mem_append.1 hx with hx | hx
     ·exact h.id x hx
     ·obtain rfl := List.mem_singleton.1 hx;exact h1
    ·intro x hx
     rcases List.mem_append.1 hx with hx | hx
     ·exact h.ser x hx
     ·obtain rfl := List.mem_singleton.1 hx;exact h2
    ·rw [List.map_append,List.nodup_append]
     refine ⟨h.nd,by simp,?_⟩
     intro x hx y hy e
     obtain ⟨z,hz,rfl⟩ := List.mem_map.1 hx
     simp at hy
     exact h3 z hz (e.trans hy)
   have := ih hg hc
   simpa using this
  ·rename_i h0
   exact absurd hc h0
theorem chkFrom_mk {r : List Mem} : ∀ {a : List Mem},Good (a ++ r) -> chkFrom a r = 0 := by
 induction r with
 | nil => intro a _;rfl
 | cons m r ih =>
  intro a h
  unfold chkFrom
  have h0 : oneE m a = 0 := by
   refine oneE_mk (h.id m (by simp)) (h.ser m (by simp)) fun x hx e => ?_
   have := h.nd
   rw [List.map_append,List.nodup_append] at this
   exact this.2.2 x.1 (List.mem_map.2 ⟨x,hx,rfl⟩) m.1 (by simp) e
  rw [if_pos h0]
  exact ih (by simpa using h)
theorem good_nil : Good [] := ⟨by simp,by simp,by simp⟩
theorem chk_zero {ep : Int} {l : List Mem} (h : chk ep l = 0) : (1 <= ep /\ ep <= 1073741824) /\ l ≠ [] /\ l.length <= 4 /\ Good l := by
 unfold chk at h
 split at h
 ·cases h
 ·split at h
  ·cases h
  ·split at h
   ·cases h
   ·rename_i h1 h2 h3
    refine ⟨by omega,?_,by omega,by simpa using chkFrom_zero good_nil h⟩
    rintro rfl
    exact h2 rfl
theorem chk_mk {ep : Int} {l : List Mem} (h1 : 1 <= ep /\ ep <= 1073741824) (h2 : l ≠ []) (h3 : l.length <= 4) (h4 : Good l) : chk ep l = 0 := by
 unfold chk
 rw [if_neg (by omega),if_neg (by intro e;exact h2 (List.eq_nil_of_length_eq_zero e)),if_neg (by omega)]
 exact chkFrom_mk (by simpa using h4)
theorem chk1_iff {m : Mem} : chk 1 [m] = 0 ↔ (0 <= m.1 /\ m.1 < 4) /\ (1 <= m.2 /\ m.2 <= 1073741824) := by
 constructor
 ·intro h
  have hg := (chk_zero h).2.2.2
  exact ⟨hg.id m (by simp),hg.ser m (by simp)⟩
 ·intro h
  exact chk_mk (by omega) (by simp) (by simp) ⟨by intro x hx;obtain rfl := List.mem_singleton.1 hx;exact h.1,by intro x hx;obtain rfl := List.mem_singleton.1 hx;exact h.2,by simp⟩
theorem good_filter {l : List Mem} (h : Good l) (p : Mem -> Bool) : Good (l.filter p) :=
 ⟨fun m hm => h.id m (List.mem_filter.1 hm).1,fun m hm => h.ser m (List.mem_filter.1 hm).1,h.nd.sublist (List.filter_sublist.map _)⟩
theorem mem_eq {l : List Mem} (h : (l.map (·.1)).Nodup) {x y : Mem} (hx : x ∈ l) (hy : y ∈ l) (e : x.1 = y.1) : x = y := by
 induction l with
 | nil => cases hx
 | cons a l ih =>
  rw [List.map_cons,List.nodup_cons] at h
  rcases List.mem_cons.1 hx with rfl | hx'
  ·rcases List.mem_cons.1 hy with rfl | hy'
   ·rfl
   ·exact absurd (List.mem_map.2 ⟨y,hy',e.symm⟩) h.1
  ·rcases List.mem_cons.1 hy with rfl | hy'
   ·exact absurd (List.mem_map.2 ⟨x,hx',e⟩) h.1
   ·exact ih h.2 hx' hy'
theorem good_two {l : List Mem} (h : Good l) (g t : List Int) : Good (firsts l t g ++ rests l t g) := by
 refine ⟨?_,?_,?_⟩
 ·intro m hm
  rcases List.mem_append.1 hm with hm | hm
  ·exact h.id m (List.mem_filter.1 hm).1
  ·exact h.id m (List.mem_filter.1 hm).1
 ·intro m hm
  rcases List.mem_append.1 hm with hm | hm
  ·exact h.ser m (List.mem_filter.1 hm).1
  ·exact h.ser m (List.mem_filter.1 hm).1
 ·rw [List.map_append,List.nodup_append]
  refine ⟨(good_filter h _).nd,(good_filter h _).nd,?_⟩
  intro x hx y hy e
  obtain ⟨a,ha,rfl⟩ := List.mem_map.1 hx
  obtain ⟨b,hb,rfl⟩ := List.mem_map.1 hy
  have ha' := List.mem_filter.1 ha
  have hb' := List.mem_filter.1 hb
  obtain rfl := mem_eq h.nd ha'.1 hb'.1 e
  have h1 := ha'.2
  have h2 := hb'.2
  unfold isFirst at h1
  unfold isRest at h2
  simp at h1 h2
  exact h2.2 h1.2
theorem len_two (l : List Mem) (g t : List Int) : (firsts l t g ++ rests l t g).length <= l.length := by
 unfold firsts rests
 rw [List.length_append]
 induction l with
 | nil => simp
 | cons m l ih =>
  rw [List.filter_cons,List.filter_cons]
  have : ¬ (isFirst g t m = true /\ isRest g t m = true) := by
   unfold isFirst isRest
   cases t.contains m.1 <;> simp
  split <;> split <;> simp_all <;> omega
theorem joinOne_good {l : List Mem} (h : Good l) (hl : l.length <= 4) (m : Mem) : Good (joinOne l m) /\ (joinOne l m).length <= 4 := by
 unfold joinOne
 split
 ·rename_i hc
  obtain ⟨h1,h2,h3⟩ := hc
  obtain ⟨h4,h5⟩ := chk1_iff.1 h2
  refine ⟨⟨?_,?_,?_⟩,by simp;omega⟩
  ·intro x hx
   rcases List.mem_append.1 hx with hx | hx
   ·exact h.id x hx
   ·obtain rfl := List.mem_singleton.1 hx;exact h4
  ·intro x hx
   rcases List.mem_append.1 hx with hx | hx
   ·exact h.ser x hx
   ·obtain rfl := List.mem_singleton.1 hx;exact h5
  ·rw [List.map_append,List.nodup_append]
   refine ⟨h.nd,by simp,?_⟩
   intro x hx y hy e
   obtain ⟨z,hz,rfl⟩ := List.mem_map.1 hx
   simp at hy
   have hn : ¬ (l.any fun x => decide (x.1 = m.1)) = true := by rw [h3];simp
   exact hn (List.any_eq_true.2 ⟨z,hz,by simp [e.trans hy]⟩)
 ·exact ⟨h,hl⟩
theorem joinAll_good (j : List Mem) : ∀ {l : List Mem},Good l -> l.length <= 4 -> Good (joinAll l j) /\ (joinAll l j).length <= 4 := by
 induction j with
 | nil => intro l h hl;exact ⟨h,hl⟩
 | cons m j ih =>
  intro l h hl
  obtain ⟨h1,h2⟩ := joinOne_good h hl m
  exact ih h1 h2
theorem joinAll_prefix (j : List Mem) : ∀ (l : List Mem),∃ r,joinAll l j = l ++ r /\ ∀ m ∈ r,m ∈ j := by
 induction j with
 | nil => intro l;exact ⟨[],by simp [joinAll],by simp⟩
 | cons m j ih =>
  intro l
  have e : joinAll l (m :: j) = joinAll (joinOne l m) j := rfl
  obtain ⟨r,hr,hm⟩ := ih (joinOne l m)
  rw [e,hr]
  unfold joinOne
  split
  ·exact ⟨m :: r,by simp,by intro x hx;rcases List.mem_cons.1 hx with rfl | hx;exact List.mem_cons_self;exact List.mem_cons_of_mem _ (hm x hx)⟩
  ·exact ⟨r,rfl,fun x hx => List.mem_cons_of_mem _ (hm x hx)⟩
theorem mem_ids {l : List Mem} {x : Int} : x ∈ ids l ↔ ∃ m ∈ l,m.1 = x := by
 unfold ids
 rw [List.mem_mergeSort,List.mem_map]
theorem ids_len (l : List Mem) : (ids l).length = l.length := by simp [ids]
theorem ids_rise {l : List Mem} (h : (l.map (·.1)).Nodup) : (ids l).Pairwise fun a b => a < b := by
 have hs : (ids l).Pairwise fun a b => a <= b := by
  have := List.pairwise_mergeSort (le := fun a b : Int => decide (a <= b)) (by intro a b c;simp;omega) (by intro a b;simp;omega) (l.map (·.1))
  exact this.imp fun h => by simpa using h
 have hn : (ids l).Nodup := (List.mergeSort_perm _ _).nodup_iff.2 h
 exact hs.imp₂ (fun a b h1 h2 => by omega) hn
structure Is (ep : Int) (c : List Mem) (fl : Int) (t g : List Int) (j : List Mem) (last : Int) (d : Next) : Prop where
 chkc : chk ep c = 0
 epv : d.ep = ep + 1
 maxv : ep < 1073741824
 lv : d.l = allOf c t g j
 flv : d.fl = floorOf fl last
 tv : d.t = ids (firsts c t g)
 ne : firsts c t g ≠ []
section
variable {ep : Int} {c : List Mem} {fl : Int} {t g : List Int} {j : List Mem} {last : Int} {d : Next}
theorem Is.form (h : Is ep c fl t g j last d) : ∃ r,d.l = firsts c t g ++ (rests c t g ++ r) /\ (∀ m ∈ r,m ∈ j) /\ Good d.l /\ d.l.length <= 4 := by
 obtain ⟨h1,h2,h3,h4⟩ := chk_zero h.chkc
 obtain ⟨r,hr,hm⟩ := joinAll_prefix j (firsts c t g ++ rests c t g)
 have hg := joinAll_good j (good_two h4 g t) (Nat.le_trans (len_two c g t) h3)
 refine ⟨r,by rw [h.lv];unfold allOf;rw [hr,List.append_assoc],hm,?_⟩
 rw [h.lv]
 exact hg
theorem Is.chk (h : Is ep c fl t g j last d) : Plan.chk d.ep d.l = 0 := by
 obtain ⟨h1,h2,h3,h4⟩ := chk_zero h.chkc
 obtain ⟨r,hr,hm,hg,hl⟩ := h.form
 refine chk_mk (by have := h.maxv;rw [h.epv];omega) ?_ hl hg
 rw [hr]
 intro e
 exact h.ne (List.append_eq_nil_iff.1 e).1
theorem Is.rise (h : Is ep c fl t g j last d) : d.t.Pairwise fun a b => a < b := by
 obtain ⟨h1,h2,h3,h4⟩ := chk_zero h.chkc
 rw [h.tv]
 exact ids_rise (good_filter h4 _).nd
theorem Is.again (h : Is ep c fl t g j last d) : nextOf d.ep d.l d.fl d.t [] [] last = ⟨20,0,[],0,[]⟩ := by
 obtain ⟨r,hr,_,hg,_⟩ := h.form
 have hfirst : firsts d.l d.t [] = firsts c t g := by
  unfold firsts
  have e1 : ∀ m ∈ d.l,isFirst [] d.t m = true ↔ m ∈ firsts c t g := by
   intro m hm
   unfold isFirst
   simp only [List.contains_nil,Bool.not_false,Bool.true_and,List.contains_iff_mem]
   rw [h.tv,mem_ids]
   constructor
   ·rintro ⟨x,hx,e⟩
    obtain rfl : x = m := mem_eq hg.nd (by rw [hr];exact List.mem_append_left _ hx) hm e
    exact hx
   ·intro hx
    exact ⟨m,hx,rfl⟩
  have hnd : d.l.Nodup := by
   have := hg.nd
   rw [List.nodup_iff_pairwise_ne,List.pairwise_map] at this
   rw [List.nodup_iff_pairwise_ne]
   exact this.imp fun h e => h (by rw [e])
  generalize isFirst [] d.t = p at e1
  rw [hr] at e1 hnd ⊢
  rw [List.filter_append]
  have e2 : (firsts c t g).filter p = firsts c t g := List.filter_eq_self.2 fun m hm => (e1 m (List.mem_append_left _ hm)).2 hm
  have e3 : (rests c t g ++ r).filter p = [] := by
   rw [List.filter_eq_nil_iff]
   intro m hm hp
   have := (e1 m (List.mem_append_right _ hm)).1 hp
   rw [List.nodup_append] at hnd
   exact hnd.2.2 m this m hm rfl
  show List.filter p (firsts c t g) ++ _ = _
  rw [e2,e3,List.append_nil]
  rfl
 have hrest : rests d.l d.t [] = rests c t g ++ r := by
  have e4 : rests d.l d.t [] = d.l.filter fun m => !isFirst [] d.t m := by
   unfold rests
   congr 1
  have e5 : firsts d.l d.t [] = d.l.filter (isFirst [] d.t) := rfl
  rw [hfirst] at e5
  have e1 : ∀ m ∈ d.l,isFirst [] d.t m = true ↔ m ∈ firsts c t g := by
   intro m hm
   rw [e5,List.mem_filter]
   exact ⟨fun h => ⟨hm,h⟩,fun h => h.2⟩
  have hnd : d.l.Nodup := by
   have := hg.nd
   rw [List.nodup_iff_pairwise_ne,List.pairwise_map] at this
   rw [List.nodup_iff_pairwise_ne]
   exact this.imp fun h e => h (by rw [e])
  rw [e4]
  generalize isFirst [] d.t = p at e1
  rw [hr] at e1 hnd ⊢
  rw [List.filter_append]
  have e2 : (firsts c t g).filter (fun m => !p m) = [] := by
   rw [List.filter_eq_nil_iff]
   intro m hm hp
   rw [(e1 m (List.mem_append_left _ hm)).2 hm] at hp
   cases hp
  have e3 : (rests c t g ++ r).filter (fun m => !p m) = rests c t g ++ r := List.filter_eq_self.2 fun m hm => by
   rw [Bool.not_eq_true',Bool.eq_false_iff]
   intro hp
   have := (e1 m (List.mem_append_right _ hm)).1 hp
   rw [List.nodup_append] at hnd
   exact hnd.2.2 m this m hm rfl
  rw [e2,e3,List.nil_append]
 unfold nextOf
 rw [if_neg (by simp [h.chk]),if_neg (by rw [hfirst];exact h.ne),if_pos]
 unfold allOf joinAll
 rw [hfirst,hrest,hr]
 rfl
end
end Plan
end Go.Proofs.YtgffjliedjhbaaaGreat
namespace Go.Proofs.YtgffjliedjhbaaaGreat
open Go.RowKit
set_option maxRecDepth 100000
namespace Plan
abbrev mcell (m : Mem) : List Value := [.int .i64 m.1,.int .i64 m.2]
abbrev mcells (l : List Mem) : List Value := l.flatMap mcell
abbrev magg (m : Mem) : Value := .agg #[.int .i64 m.1,.int .i64 m.2]
abbrev ints (l : List Int) : List Value := l.map (Value.int .i64)
theorem mcells_append (a b : List Mem) : mcells (a ++ b) = mcells a ++ mcells b := by simp [mcells]
theorem mcells_take (a : List Mem) (k : Nat) : (mcells a).take (k * 2) = mcells (a.take k) := by
 induction a generalizing k with
 | nil => simp [mcells]
 | cons x a ih =>
  cases k with
  | zero => simp [mcells]
  | succ k =>
   have e : (k + 1) * 2 = k * 2 + 1 + 1 := by omega
   show (Value.int .i64 x.1 :: Value.int .i64 x.2 :: mcells a).take ((k + 1) * 2) = Value.int .i64 x.1 :: Value.int .i64 x.2 :: mcells (a.take k)
   rw [e]
   simp [ih]
theorem mem_cells {w : World} {A : Option Addr} {m : Nat} {l : List Mem} (h : Src w 2 A m (mcells l)) (hm : 0 < m) (i : Nat) (p : Mem) (hp : l[i]? = some p) :
  ∃ ad,A = some ad /\ ad.block < w.heap.size /\ w.cell? (ad.add (i * 2)) = some (.int .i64 p.1) /\ w.cell? ⟨(ad.add (i * 2)).block,(ad.add (i * 2)).off + 1,none⟩ = some (.int .i64 p.2) := by
 obtain ⟨ad,rfl,had,hcell⟩ := h.2 hm
 have k0 : (mcells l)[i * 2]? = some (.int .i64 p.1) := by
  rw [flat_get mcell 2 (by decide) (fun _ => rfl),show i * 2 / 2 = i by omega,show i * 2 % 2 = 0 by omega,hp];rfl
 have k1 : (mcells l)[i * 2 + 1]? = some (.int .i64 p.2) := by
  rw [flat_get mcell 2 (by decide) (fun _ => rfl),show (i * 2 + 1) / 2 = i by omega,show (i * 2 + 1) % 2 = 1 by omega,hp];rfl
 refine ⟨ad,rfl,had,hcell _ _ k0,?_⟩
 rw [<- add_lit _ (by omega),add_add];exact hcell _ _ k1
theorem int_cells {w : World} {A : Option Addr} {m : Nat} {l : List Int} (h : Src w 1 A m (ints l)) (hm : 0 < m) (i : Nat) (x : Int) (hx : l[i]? = some x) :
  ∃ ad,A = some ad /\ ad.block < w.heap.size /\ w.cell? (ad.add i) = some (.int .i64 x) := by
 obtain ⟨ad,rfl,had,hcell⟩ := h.2 hm
 exact ⟨ad,rfl,had,hcell i _ (by simp [hx])⟩
theorem run_eql_mem (p q : Mem) (W : World) : (binOp .eql 57 (magg p) (magg q)).run Tryz.prog W = .ok (.bool (decide (p = q))) W := by
 obtain ⟨p1,p2⟩ := p
 obtain ⟨q1,q2⟩ := q
 by_cases h1 : p1 = q1 <;> by_cases h2 : p2 = q2 <;> simp [go_sem,h1,h2]
theorem drop_cons {α : Type} {l : List α} {i : Nat} {a : α} (h : l[i]? = some a) : l.drop i = a :: l.drop (i + 1) := by
 obtain ⟨hl,rfl⟩ := List.getElem?_eq_some_iff.1 h
 exact List.drop_eq_getElem_cons hl
theorem take_snoc {α : Type} {l : List α} {i : Nat} {a : α} (h : l[i]? = some a) : l.take (i + 1) = l.take i ++ [a] := by
 rw [List.take_add_one,h];rfl
theorem elemMem : Elem Tryz.prog 51 57 2 16 :=
 by
 obtain ⟨i0,hi,hz0,hz1,hz2⟩ := info_parts (show (Tryz.prog.info? 57).map (fun i => (i.zero,i.size,i.bytes)) = some (some (.agg #[.int .i64 0,.int .i64 0]),2,16) by kernel_rfl)
 exact ⟨Tryz.underlying51,⟨i0,_,hi,hz0,hz1,hz2,rfl⟩,by decide⟩
theorem elemInt : Elem Tryz.prog 110 3 1 8 :=
 by
 obtain ⟨i0,hi,hz0,hz1,hz2⟩ := info_parts (show (Tryz.prog.info? 3).map (fun i => (i.zero,i.size,i.bytes)) = some (some (.int .i64 0),1,8) by kernel_rfl)
 exact ⟨Tryz.underlying110,⟨i0,_,hi,hz0,hz1,hz2,rfl⟩,by decide⟩
end Plan
namespace Plan
abbrev cagg (ep : Int) (A : Option Addr) (n c : Nat) (fl : Int) : Value := .agg #[.int .i64 ep,.slice A n c,.int .u64 fl]
def inB (l : List Int) (x : Int) : Bool := l.contains x
def anyId (l : List Mem) (x : Int) : Bool := l.any fun m => decide (m.1 = x)
end Plan
namespace Plan
theorem chkFrom_step {l : List Mem} {i : Nat} {m : Mem} (h : l[i]? = some m) (h0 : oneE m (l.take i) = 0) : chkFrom (l.take i) (l.drop i) = chkFrom (l.take (i + 1)) (l.drop (i + 1)) := by
 rw [drop_cons h,take_snoc h]
 conv => lhs;unfold chkFrom
 rw [if_pos h0]
theorem chkFrom_stop {l : List Mem} {i : Nat} {m : Mem} (h : l[i]? = some m) (h0 : oneE m (l.take i) ≠ 0) : chkFrom (l.take i) (l.drop i) = oneE m (l.take i) := by
 rw [drop_cons h]
 unfold chkFrom
 rw [if_neg h0]
end Plan
namespace Plan
def NewRow (b : Nat) (w : World) (A : Option Addr) (n c : Nat) (l : List Mem) : Prop :=
 n = l.length /\ w.ownsRow 0 57 2 (.slice A n c) n (mcells l) /\ ∀ k,(Value.slice A n c).ownBlock = some k -> b <= k
theorem NewRow.nil (b : Nat) (w : World) : NewRow b w none 0 0 [] := ⟨rfl,⟨rfl,.inl ⟨rfl,rfl⟩⟩,fun k hk => by cases hk⟩
theorem NewRow.kept {b : Nat} {w w' : World} {A : Option Addr} {n c : Nat} {l : List Mem} (h : NewRow b w A n c l) (hk : Kept NoF w w') : NewRow b w' A n c l :=
 ⟨h.1,own_kept h.2.1 hk (fun _ _ x => x),h.2.2⟩
end Plan
end Go.Proofs.YtgffjliedjhbaaaGreat

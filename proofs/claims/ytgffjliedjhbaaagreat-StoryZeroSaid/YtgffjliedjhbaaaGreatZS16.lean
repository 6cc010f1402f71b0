/- Part 17 of what the proof needs. -/
import Derived.Test.YtgffjliedjhbaaaGreatZS15
import Derived.RegionIn
set_option linter.unusedSimpArgs false
set_option linter.unusedVariables false
set_option maxHeartbeats 32000000
set_option maxRecDepth 100000
namespace Go.Proofs.YtgffjliedjhbaaaGreat
set_option maxRecDepth 100000
namespace Fr
open Vn Ops
theorem frameL_len (t : List UInt8) : (frameL t).length = (put t.length).length + 4 + t.length := by simp [frameL,mkN];omega
theorem next_frame (pre t rest : List UInt8) (ht : t.length <= 65536) : nextR (pre ++ frameL t ++ rest) pre.length = .ok t (pre.length + (frameL t).length) := by
 have e : pre ++ frameL t ++ rest = pre ++ put t.length ++ (mkN (sumN (put t.length ++ t)) ++ t ++ rest) := by simp [frameL]
 have hg := get_put pre (mkN (sumN (put t.length ++ t)) ++ t ++ rest) t.length (by omega)
 have hm : (mkN (sumN (put t.length ++ t))).length = 4 := rfl
 rw [frameL_len,e]
 generalize hp : put t.length = p at *
 generalize hmm : mkN (sumN (p ++ t)) = m at *
 unfold nextR
 rw [hg]
 dsimp only
 have d1 : (pre ++ p ++ (m ++ t ++ rest)).drop (pre.length + p.length) = m ++ t ++ rest := by
  rw [List.drop_append_of_le_length (by simp),List.drop_eq_nil_of_le (by simp)];rfl
 have d2 : (pre ++ p ++ (m ++ t ++ rest)).drop pre.length = p ++ (m ++ t ++ rest) := by simp
 have d3 : (pre ++ p ++ (m ++ t ++ rest)).drop (pre.length + p.length + 4) = t ++ rest := by
  rw [<- List.drop_drop,d1,<- hm];simp
 rw [if_neg (by omega),if_neg (by simp;omega),d1,d2,d3]
 have t1 : (m ++ t ++ rest).take 4 = m := by rw [<- hm];simp
 have t2 : (p ++ (m ++ t ++ rest)).take (pre.length + p.length - pre.length) = p := by rw [Nat.add_sub_cancel_left];simp
 have t3 : (t ++ rest).take t.length = t := by simp
 rw [t1,t2,t3,hmm,if_pos rfl]
 congr 1
 omega
theorem get_part (pre p : List UInt8) (n : Nat) (h : n < 18446744073709551616) (hp : p <+: put n) (hl : p.length < (put n).length) : Vn.get (pre ++ p) pre.length = .error 2 := by
 have h8 := needs_le8 h
 cases p with
 | nil => unfold Vn.get;rw [List.append_nil,List.getElem?_eq_none (Nat.le_refl _)]
 | cons b p =>
  by_cases hs : n < 248
  ·rw [put_small hs] at hl;simp at hl
  ·rw [put_big hs] at hp hl
   have hk := needs_pos n
   have hb : b = UInt8.ofNat (247 + needs n) := by
    obtain ⟨r,hr⟩ := hp
    simp only [byt,List.map_cons,List.cons_append] at hr
    exact (List.cons.inj hr).1
   have e2 : b.toNat = 247 + needs n := by rw [hb,UInt8.toNat_ofNat'];omega
   have hl2 : p.length < needs n := by simpa [byt,be_length] using hl
   unfold Vn.get
   rw [List.getElem?_append_right (Nat.le_refl _),Nat.sub_self]
   simp only [List.getElem?_cons_zero]
   rw [if_neg (by omega),if_pos (by simp;omega)]
theorem next_part (pre q t : List UInt8) (ht : t.length <= 65536) (hq : q <+: frameL t) (hl : q.length < (frameL t).length) : nextR (pre ++ q) pre.length = .bad 2 := by
 by_cases hp : q.length < (put t.length).length
 ·have h1 : q <+: put t.length := List.prefix_of_prefix_length_le hq (by unfold frameL;rw [List.append_assoc];exact List.prefix_append _ _) (by omega)
  unfold nextR
  rw [get_part pre q _ (by omega) h1 hp]
 ·have h1 : put t.length <+: q := List.prefix_of_prefix_length_le (by unfold frameL;rw [List.append_assoc];exact List.prefix_append _ _) hq (by omega)
  obtain ⟨r,rfl⟩ := h1
  unfold nextR
  rw [<- List.append_assoc,get_put pre r t.length (by omega)]
  dsimp only
  rw [frameL_len] at hl
  rw [if_neg (by omega),if_pos (by simp at hl ⊢;omega)]
def fileL (ts : List (List UInt8)) : List UInt8 := (ts.map frameL).flatten
theorem framesF_whole (q t' : List UInt8) (ht' : t'.length <= 65536) (hq : q <+: frameL t') (hl : q.length < (frameL t').length) : ∀ (ts : List (List UInt8)) (pre : List UInt8) (fuel : Nat),(∀ t ∈ ts,t.length <= 65536) -> ts.length + 1 <= fuel ->
  ∃ rs : List NextR,framesF (pre ++ fileL ts ++ q) fuel pre.length = rs ++ (if q = [] then [] else [.bad 2]) /\ rs.map (fun | .ok t _ => some t | .bad _ => none) = ts.map some
 | [],pre,fuel,_,hf => by
  obtain ⟨fuel,rfl⟩ : ∃ k,fuel = k + 1 := ⟨fuel - 1,by simp at hf;omega⟩
  refine ⟨[],?_,rfl⟩
  unfold framesF
  by_cases h : q = []
  ·subst h;simp [fileL]
  ·have : 0 < q.length := List.length_pos_iff.2 h
   have e : pre ++ fileL [] ++ q = pre ++ q := by simp [fileL]
   rw [e,if_neg (by simp;omega),next_part pre q t' ht' hq hl,if_neg h]
   rfl
 | t :: ts,pre,fuel,hb,hf => by
  obtain ⟨fuel,rfl⟩ : ∃ k,fuel = k + 1 := ⟨fuel - 1,by simp at hf;omega⟩
  obtain ⟨rs,h1,h2⟩ := framesF_whole q t' ht' hq hl ts (pre ++ frameL t) fuel (fun x hx => hb x (by simp [hx])) (by simp at hf;omega)
  have e : pre ++ fileL (t :: ts) ++ q = pre ++ frameL t ++ (fileL ts ++ q) := by simp [fileL]
  have e2 : pre ++ frameL t ++ fileL ts ++ q = pre ++ frameL t ++ (fileL ts ++ q) := by simp
  rw [e2] at h1
  refine ⟨.ok t (pre.length + (frameL t).length) :: rs,?_,by simp [h2]⟩
  rw [e]
  unfold framesF
  have hpos := frameL_len t
  rw [if_neg (by simp;omega),next_frame pre t _ (hb t (by simp))]
  dsimp only
  rw [List.length_append] at h1
  rw [h1]
  rfl
def okT : List NextR -> List (List UInt8)
 | .ok t _ :: l => t :: okT l
 | _ => []
def endAt : Nat -> List NextR -> Nat
 | _,.ok _ to :: l => endAt to l
 | a,_ => a
def endE : List NextR -> Nat
 | .ok _ _ :: l => endE l
 | .bad e :: _ => codeE e
 | [] => 0
def tcells (l : List (List UInt8)) : List Value := l.map fun t => .string (ofL t)
def allOk : List NextR -> Prop
 | .ok _ _ :: l => allOk l
 | .bad _ :: _ => False
 | [] => True
theorem okT_ok {pre : List NextR} (h : allOk pre) (t : List UInt8) (to : Nat) : okT (pre ++ [.ok t to]) = okT pre ++ [t] /\ (∀ a,endAt a (pre ++ [.ok t to]) = to) /\ allOk (pre ++ [.ok t to]) := by
 induction pre with
 | nil => exact ⟨rfl,fun _ => rfl,trivial⟩
 | cons x pre ih =>
  cases x with
  | bad e => exact h.elim
  | ok t' to' =>
   obtain ⟨h1,h2,h3⟩ := ih h
   exact ⟨by show t' :: okT (pre ++ _) = t' :: okT pre ++ [t];rw [h1];rfl,fun a => h2 to',h3⟩
theorem okT_bad {p : List NextR} (h : allOk p) (e : Nat) (r : List NextR) : okT (p ++ .bad e :: r) = okT p /\ (∀ a,endAt a (p ++ .bad e :: r) = endAt a p) /\ endE (p ++ .bad e :: r) = codeE e := by
 induction p with
 | nil => exact ⟨rfl,fun _ => rfl,rfl⟩
 | cons x p ih =>
  cases x with
  | bad e => exact h.elim
  | ok t' to' =>
   obtain ⟨h1,h2,h3⟩ := ih h
   exact ⟨by show t' :: okT (p ++ _) = t' :: okT p;rw [h1],fun a => h2 to',h3⟩
theorem endE_ok {p : List NextR} (h : allOk p) : endE p = 0 := by
 induction p with
 | nil => rfl
 | cons x p ih =>
  cases x with
  | bad e => exact h.elim
  | ok t' to' => exact ih h
theorem okT_len (p : List NextR) : (okT p).length <= p.length := by
 induction p with
 | nil => exact Nat.le_refl _
 | cons x p ih =>
  cases x with
  | bad e => exact Nat.zero_le _
  | ok t' to' => show (okT p).length + 1 <= p.length + 1;omega
theorem framesF_len (s : List UInt8) : ∀ (fuel i : Nat),(framesF s fuel i).length <= fuel
 | 0,_ => Nat.le_refl _
 | fuel + 1,i => by
  unfold framesF
  split
  ·exact Nat.zero_le _
  ·split
   ·simp
   ·have := framesF_len s fuel;simp;exact this _
theorem fileL_len (ts : List (List UInt8)) : ts.length <= (fileL ts).length := by
 induction ts with
 | nil => exact Nat.zero_le _
 | cons t ts ih =>
  have e : fileL (t :: ts) = frameL t ++ fileL ts := by simp [fileL]
  have := frameL_len t
  rw [e,List.length_append,List.length_cons]
  omega
theorem framesF_all (q t' : List UInt8) (ht' : t'.length <= 65536) (hq : q <+: frameL t') (hl : q.length < (frameL t').length) : ∀ (ts : List (List UInt8)) (pre : List UInt8) (fuel : Nat),(∀ t ∈ ts,t.length <= 65536) -> ts.length + 1 <= fuel ->
  okT (framesF (pre ++ fileL ts ++ q) fuel pre.length) = ts /\ endAt pre.length (framesF (pre ++ fileL ts ++ q) fuel pre.length) = pre.length + (fileL ts).length /\ endE (framesF (pre ++ fileL ts ++ q) fuel pre.length) = if q = [] then 0 else codeE 2
 | [],pre,fuel,_,hf => by
  obtain ⟨fuel,rfl⟩ : ∃ k,fuel = k + 1 := ⟨fuel - 1,by simp at hf;omega⟩
  unfold framesF
  by_cases h : q = []
  ·subst h;simp [fileL,okT,endAt,endE]
  ·have : 0 < q.length := List.length_pos_iff.2 h
   have e : pre ++ fileL [] ++ q = pre ++ q := by simp [fileL]
   rw [e,if_neg (by simp;omega),next_part pre q t' ht' hq hl,if_neg h]
   exact ⟨rfl,rfl,rfl⟩
 | t :: ts,pre,fuel,hb,hf => by
  obtain ⟨fuel,rfl⟩ : ∃ k,fuel = k + 1 := ⟨fuel - 1,by simp at hf;omega⟩
  obtain ⟨h1,h2,h3⟩ := framesF_all q t' ht' hq hl ts (pre ++ frameL t) fuel (fun x hx => hb x (by simp [hx])) (by simp at hf;omega)
  have e0 : fileL (t :: ts) = frameL t ++ fileL ts := by simp [fileL]
  have e : pre ++ fileL (t :: ts) ++ q = pre ++ frameL t ++ (fileL ts ++ q) := by simp [fileL]
  have e2 : pre ++ frameL t ++ fileL ts ++ q = pre ++ frameL t ++ (fileL ts ++ q) := by simp
  rw [e2,List.length_append] at h1 h2 h3
  rw [e]
  unfold framesF
  have hpos := frameL_len t
  rw [if_neg (by simp;omega),next_frame pre t _ (hb t (by simp))]
  dsimp only
  refine ⟨by show t :: okT _ = _;rw [h1],?_,h3⟩
  show endAt (pre.length + (frameL t).length) _ = _
  rw [h2,e0,List.length_append]
  omega
theorem all_whole (ts : List (List UInt8)) (q t' : List UInt8) (hb : ∀ t ∈ ts,t.length <= 65536) (ht' : t'.length <= 65536) (hq : q <+: frameL t') (hl : q.length < (frameL t').length) :
  okT (framesL (fileL ts ++ q)) = ts /\ endAt 0 (framesL (fileL ts ++ q)) = (fileL ts).length /\ endE (framesL (fileL ts ++ q)) = if q = [] then 0 else codeE 2 := by
 have h := framesF_all q t' ht' hq hl ts [] ((fileL ts ++ q).length + 1) hb (by have := fileL_len ts;simp;omega)
 simpa [framesL] using h
end Fr
end Go.Proofs.YtgffjliedjhbaaaGreat
namespace Go.Proofs.YtgffjliedjhbaaaGreat
set_option maxRecDepth 100000
namespace Fr
theorem wpOpIn_inRound {F : Fence} {n : Nat} {P : Program} {ops : Array Oper} {Q : Exit -> Act -> World -> Prop} {i l : Nat} {K : Act -> World -> Prop} {a : Act} {w : World} (hro : F.round = none) (hd : ∀ (j : Nat) (o : Oper),ops[j]? = some o -> ∀ c,o.op ≠ .defer c)
  (h : wpOpIn F n P ops Q i K a w) : wpOpIn (F.inRound l) n P ops Q i K a w := by
 unfold wpOpIn at *
 cases ho : ops[i]? with
 | none => simpa only [ho] using h
 | some o =>
  simp only [ho] at h ⊢
  split
  ·rename_i hw
   simp only [hw,if_true] at h
   unfold Oper.wpIn at *
   refine ⟨h.1,?_⟩
   have h2 := h.2
   rw [hro,Oper.semAt_none] at h2
   show o.uponIn (F.inRound l) n P a K Q ((o.semAt (some l) a.eval).run P w)
   rw [Oper.semAt_some l _ _ (hd i o ho)]
   exact h2
  ·rename_i hw
   simp only [hw] at h
   exact h
theorem wpAnyIn_inRound {F : Fence} {n : Nat} {P : Program} {md : Region.Mode} {ops : Array Oper} {Q : Exit -> Act -> World -> Prop} {l : Nat} (hro : F.round = none) (hd : ∀ (j : Nat) (o : Oper),ops[j]? = some o -> ∀ c,o.op ≠ .defer c) :
  ∀ (fuel : Nat) (listed : Array Bool) (a : Act) (w : World),wpAnyIn F n P md ops Q fuel listed a w -> wpAnyIn (F.inRound l) n P md ops Q fuel listed a w := by
 intro fuel
 induction fuel with
 | zero => intro listed a w h;exact h
 | succ fuel ih =>
  intro listed a w h
  exact ⟨h.1,fun i hi => wpOpIn_inRound hro hd (wpOpIn_mono (fun a w => ih _ a w) (h.2 i hi))⟩
theorem wpIn_region_round {F : Fence} {n : Nat} {P : Program} {ops : List Oper} {Q : Exit -> Act -> World -> Prop} {l id : Nat} {a : Act} {w : World} (hro : F.round = none) (hm : P.follows .mixedOrders = true) (hd : ∀ o ∈ ops,∀ c,o.op ≠ .defer c)
  (h : wpAnyIn F n P .any ops.toArray Q ops.toArray.size (Array.replicate ops.toArray.size false) a w.drew) : (Code.region id ops.toArray true).wpIn (F.inRound l) n P Q a w :=
 wpIn_region_any hm (wpAnyIn_inRound hro (fun j o ho => hd o (by
  have := Array.mem_of_getElem? ho
  simpa using this)) _ _ _ _ h)
end Fr
end Go.Proofs.YtgffjliedjhbaaaGreat

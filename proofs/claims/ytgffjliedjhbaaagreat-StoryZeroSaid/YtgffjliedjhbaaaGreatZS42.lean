/- Part 43 of what the proof needs. -/
import Derived.Test.YtgffjliedjhbaaaGreatZS35
set_option linter.unusedSimpArgs false
set_option linter.unusedVariables false
set_option maxHeartbeats 32000000
set_option maxRecDepth 100000
namespace Go.Proofs.YtgffjliedjhbaaaGreat
open Go.RowKit
set_option maxRecDepth 100000
namespace Mst
open Plan Vn Go.Sort
theorem firstE_zero (f : Nat -> Int -> Int) : ∀ (l : List Int) (i : Nat),firstE f l i = 0 ↔ ∀ j x,l[j]? = some x -> f (i + j) x = 0
 | [],i => by simp [firstE]
 | a :: l,i => by
  rw [firstE]
  split
  ·rename_i h
   rw [firstE_zero f l (i + 1)]
   constructor
   ·intro h2 j x hx
    cases j with
    | zero => obtain rfl : a = x := by simpa using hx
              exact h
    | succ j => have := h2 j x (by simpa using hx);rwa [show i + 1 + j = i + (j + 1) by omega] at this
   ·intro h2 j x hx
    have := h2 (j + 1) x (by simpa using hx)
    rwa [show i + (j + 1) = i + 1 + j by omega] at this
  ·rename_i h
   constructor
   ·intro h2;exact absurd h2 h
   ·intro h2;exact absurd (h2 0 a rfl) h
theorem rngE_zero {x : Int} : rngE x = 0 ↔ 0 <= x /\ x <= 1073741824 := by
 unfold rngE
 split <;> constructor <;> intro h <;> first | omega | (simp at h;done) | rfl
theorem rngL_zero {l : List Int} : rngL l = 0 ↔ ∀ x ∈ l,0 <= x /\ x <= 1073741824 := by
 unfold rngL
 rw [firstE_zero]
 constructor
 ·intro h x hx
  obtain ⟨j,hj⟩ := List.mem_iff_getElem?.1 hx
  exact rngE_zero.1 (h j x hj)
 ·intro h j x hx
  exact rngE_zero.2 (h x (List.mem_of_getElem? hx))
theorem legF_zero {l : List Int} {i : Nat} {x : Int} : legF l i x = 0 ↔ (0 <= x /\ x < 4) /\ (0 < i -> l.getD (i - 1) 0 < x) := by
 unfold legF
 split
 ·rename_i h
  constructor
  ·intro h2;omega
  ·intro h2;omega
 ·rename_i h
  split
  ·rename_i h2
   constructor
   ·intro h3;omega
   ·intro h3;have := h3.2 h2.1;omega
  ·rename_i h2
   constructor
   ·intro _
    refine ⟨by omega,fun h0 => ?_⟩
    rcases Int.lt_or_le (l.getD (i - 1) 0) x with h3 | h3
    ·exact h3
    ·exact absurd ⟨h0,h3⟩ h2
   ·intro _;rfl
theorem sorted_ge : ∀ (l : List Int),l.Pairwise (· < ·) -> (∀ x ∈ l,0 <= x) -> ∀ (i : Nat) (x : Int),l[i]? = some x -> (i : Int) <= x := by
 intro l hl h0 i
 induction i with
 | zero => intro x hx;have := h0 x (List.mem_of_getElem? hx);simpa using this
 | succ i ih =>
  intro x hx
  obtain ⟨hi,e⟩ := List.getElem?_eq_some_iff.1 hx
  have h1 := ih l[i] (List.getElem?_eq_getElem (by omega))
  have h2 := (List.pairwise_iff_getElem.1 hl) i (i + 1) (by omega) hi (by omega)
  rw [e] at h2
  omega
theorem legE_zero {l : List Int} : legE l = 0 ↔ (∀ x ∈ l,0 <= x /\ x < 4) /\ l.Pairwise (· < ·) := by
 unfold legE
 split
 ·rename_i h
  constructor
  ·intro h2;omega
  ·rintro ⟨h1,h2⟩
   have h3 := sorted_ge l h2 (fun x hx => (h1 x hx).1) 4 l[4] (List.getElem?_eq_getElem h)
   have := h1 l[4] (List.getElem_mem h)
   omega
 ·rename_i h
  rw [firstE_zero]
  constructor
  ·intro h2
   have hstep : ∀ i (hi : i + 1 < l.length),l[i] < l[i + 1] := by
    intro i hi
    have := (legF_zero.1 (h2 (i + 1) l[i + 1] (List.getElem?_eq_getElem hi))).2 (by omega)
    rw [Nat.zero_add,Nat.add_sub_cancel,List.getD_eq_getElem?_getD,List.getElem?_eq_getElem (by omega : i < l.length)] at this
    simpa using this
   refine ⟨fun x hx => ?_,List.pairwise_iff_getElem.2 ?_⟩
   ·obtain ⟨j,hj⟩ := List.mem_iff_getElem?.1 hx
    exact (legF_zero.1 (h2 j x hj)).1
   ·intro i j hi hj hij
    obtain ⟨d,rfl⟩ : ∃ d,j = i + 1 + d := ⟨j - (i + 1),by omega⟩
    clear hij
    induction d with
    | zero => exact hstep i hj
    | succ d ih => exact Int.lt_trans (ih (by omega)) (hstep (i + 1 + d) hj)
  ·rintro ⟨h1,h2⟩ j x hx
   rw [Nat.zero_add]
   refine legF_zero.2 ⟨h1 x (List.mem_of_getElem? hx),fun h0 => ?_⟩
   obtain ⟨hj,e⟩ := List.getElem?_eq_some_iff.1 hx
   rw [List.getD_eq_getElem?_getD,List.getElem?_eq_getElem (by omega : j - 1 < l.length)]
   have := (List.pairwise_iff_getElem.1 h2) (j - 1) j (by omega) hj (by omega)
   rw [e] at this
   simpa using this
theorem legE_length {l : List Int} (h : legE l = 0) : l.length <= 4 := by
 unfold legE at h
 split at h
 ·omega
 ·omega
theorem inB_iff {l : List Int} {x : Int} : inB l x = true ↔ x ∈ l := by unfold inB;exact List.contains_iff_mem
theorem mem_sortI {l : List Int} {x : Int} : x ∈ sortI l ↔ x ∈ l := (List.mergeSort_perm l _).mem_iff
theorem sortI_sorted {l : List Int} (hn : l.Nodup) : (sortI l).Pairwise (· < ·) := by
 have h1 : (sortI l).Pairwise (fun a b => decide (a <= b) = true) := List.pairwise_mergeSort (le := fun a b : Int => decide (a <= b)) (by intro a b c;simp;omega) (by intro a b;simp;omega) l
 have h2 : (sortI l).Nodup := (List.mergeSort_perm l _).nodup_iff.2 hn
 exact (List.Pairwise.and h1 h2).imp (fun {a b} h => by
  have h3 := of_decide_eq_true h.1
  have h4 := h.2
  omega)
structure Inv (s : StR) : Prop where
 conf : (s.ep = 0 /\ s.ms = [] /\ s.fl = 0 /\ s.lg = []) \/ (chk s.ep s.ms = 0 /\ legE s.lg = 0 /\ (∀ x ∈ s.lg,anyId s.ms x = true) /\ headI s.ms ∈ s.lg /\ 0 <= s.fl)
 hz : 0 <= s.hz
 pl : s.pins.length <= 3
 rise : s.pins.Pairwise (fun a b => a.id < b.id)
 pin : ∀ p ∈ s.pins,1 <= p.id /\ p.id <= s.top /\ p.left = 8 /\ 0 <= p.at'
 top : 0 <= s.top /\ s.top <= 1073741824
 a0 : s.t0 = ans0 \/ (saidE s.t0 = 0 /\ s.t0.cl = 0)
 a1 : s.t1 = ans0 \/ (saidE s.t1 = 0 /\ s.t1.cl = 1)
 a2 : s.t2 = ans0 \/ (saidE s.t2 = 0 /\ s.t2.cl = 2)
theorem inv0 : Inv st0 := ⟨.inl ⟨rfl,rfl,rfl,rfl⟩,by decide,by decide,List.Pairwise.nil,(fun p hp => by cases hp),⟨by decide,by decide⟩,.inl rfl,.inl rfl,.inl rfl⟩
theorem Inv.ok {s : StR} (h : Inv s) : SOk s := by
 rcases h.conf with ⟨_,h1,_,h2⟩ | ⟨h1,h2,_⟩
 ·exact ⟨by rw [h1];decide,by rw [h2];decide,by have := h.pl;omega⟩
 ·exact ⟨by have := (chk_zero h1).2.2.1;omega,by have := legE_length h2;omega,by have := h.pl;omega⟩
theorem anyId_iff {l : List Mem} {x : Int} : anyId l x = true ↔ ∃ m ∈ l,m.1 = x := by simp [anyId]
theorem pinAt_some {l : List PinR} {id : Int} (h : 0 <= pinAt l id) : ∃ (k : Nat) (x : PinR),pinAt l id = (k : Int) /\ l[k]? = some x /\ x.id = id := by
 rcases pinAt_cases l id with h1 | h1
 ·omega
 ·exact h1
theorem renewed_same {l : List PinR} {id : Int} (h : ∀ p ∈ l,p.left = 8) (h0 : 0 <= pinAt l id) : renewed l id = l := by
 unfold renewed
 obtain ⟨k,y,h1,hy,hid⟩ := pinAt_some h0
 rw [h1,Int.toNat_natCast,hy]
 have hl := h y (List.mem_of_getElem? hy)
 have e : (⟨id,y.at',8⟩ : PinR) = y := by rw [<- hid,<- hl]
 obtain ⟨h2,h3⟩ := List.getElem?_eq_some_iff.1 hy
 show l.set k ⟨id,y.at',8⟩ = l
 rw [e,<- h3]
 exact List.set_getElem_self h2
theorem freed_sub (l : List PinR) (id : Int) : (freed l id).Sublist l := by
 unfold freed
 split
 ·exact List.Sublist.refl _
 ·exact List.eraseIdx_sublist ..
theorem noteE_n {x : NoteR} (h : noteE x = 0) (hk : x.k = 7) : 0 <= x.n /\ x.n <= 1073741824 := by
 unfold noteE at h
 rw [if_neg (by omega),if_neg (by omega),if_pos (by omega)] at h
 exact rngL_zero.1 h x.n (by simp)
theorem noteE_pin {x : NoteR} (h : noteE x = 0) (hk : x.k = 6) : 0 <= x.pin.id /\ x.pin.id <= 1073741824 := by
 unfold noteE at h
 rw [if_neg (by omega),if_neg (by omega),if_neg (by omega),if_pos hk] at h
 exact rngL_zero.1 h x.pin.id (by simp)
theorem noteE_conf {x : NoteR} (h : noteE x = 0) (hk : x.k = 1) : chk x.ep x.ms = 0 /\ legE x.lg = 0 := by
 unfold noteE at h
 rw [if_pos hk] at h
 split at h
 ·rename_i h1;exact ⟨h1,h⟩
 ·rename_i h1;exact absurd h h1
theorem noteE_said {x : NoteR} (h : noteE x = 0) (hk : x.k = 8) : saidE x.said = 0 := by
 unfold noteE at h
 rw [if_neg (by omega),if_neg (by omega),if_neg (by omega),if_neg (by omega),if_pos hk] at h
 exact h
theorem said_cl {a : AnsR} (h : saidE a = 0) : a.cl = 0 \/ a.cl = 1 \/ a.cl = 2 := by
 unfold saidE at h
 split at h
 ·omega
 ·omega
theorem applyE_note {s : StR} {x : NoteR} (h : applyE s x = 0) : noteE x = 0 := by
 unfold applyE at h
 split at h
 ·rename_i h1;exact absurd h h1
 ·rename_i h1;exact Classical.not_not.1 h1
theorem applyE_case {s : StR} {x : NoteR} (h : applyE s x = 0) : x.k = 1 \/ x.k = 5 \/ x.k = 4 \/ x.k = 6 \/ x.k = 7 \/ x.k = 8 := by
 have hn := applyE_note h
 unfold applyE at h
 rw [if_neg (by simpa using hn)] at h
 by_cases h1 : x.k = 1
 ·exact .inl h1
 by_cases h5 : x.k = 5
 ·exact .inr (.inl h5)
 by_cases h4 : x.k = 4
 ·exact .inr (.inr (.inl h4))
 by_cases h6 : x.k = 6
 ·exact .inr (.inr (.inr (.inl h6)))
 by_cases h7 : x.k = 7
 ·exact .inr (.inr (.inr (.inr (.inl h7))))
 by_cases h8 : x.k = 8
 ·exact .inr (.inr (.inr (.inr (.inr h8))))
 rw [if_neg h1,if_neg h5,if_neg h4,if_neg h6,if_neg h7,if_neg h8] at h
 omega
theorem applyE_at {s : StR} {x : NoteR} (h : applyE s x = 0) : (x.k = 1 -> nextE s x = 0) /\ (x.k = 5 -> anyId s.ms x.n = true) /\ (x.k = 4 -> ¬ x.at' < s.hz) /\ (x.k = 6 -> pinE s x.pin = 0) /\ (x.k = 8 -> ¬ x.said.req < (toldOf s x.said.cl).req) := by
 have hn := applyE_note h
 unfold applyE at h
 rw [if_neg (by simpa using hn)] at h
 refine ⟨fun hk => ?_,fun hk => ?_,fun hk => ?_,fun hk => ?_,fun hk => ?_⟩
 ·rw [if_pos hk] at h;exact h
 ·rw [if_neg (by omega),if_pos hk] at h
  split at h
  ·assumption
  ·omega
 ·rw [if_neg (by omega),if_neg (by omega),if_pos hk] at h
  split at h
  ·omega
  ·assumption
 ·rw [if_neg (by omega),if_neg (by omega),if_neg (by omega),if_pos hk] at h;exact h
 ·rw [if_neg (by omega),if_neg (by omega),if_neg (by omega),if_neg (by omega),if_neg (by omega),if_pos hk] at h
  split at h
  ·omega
  ·assumption
theorem nextE_zero {s : StR} {x : NoteR} (h : nextE s x = 0) : s.ep < x.ep /\ (∀ y ∈ x.lg,anyId x.ms y = true) /\ headI x.ms ∈ x.lg := by
 unfold nextE at h
 split at h
 ·omega
 ·split at h
  ·omega
  ·split at h
   ·omega
   ·rename_i h1 h2 h3
    refine ⟨by omega,fun y hy => ?_,?_⟩
    ·cases hb : anyId x.ms y
     ·exfalso;exact h2 (List.any_eq_true.2 ⟨y,hy,by rw [hb];rfl⟩)
     ·rfl
    ·refine inB_iff.1 ?_
     cases hb : inB x.lg (headI x.ms)
     ·exact absurd hb h3
     ·rfl
theorem pinE_zero {s : StR} {p : PinR} (h : pinE s p = 0) (h0 : ¬ 0 <= pinAt s.pins p.id) : s.pins.length < 3 /\ s.top < p.id /\ s.hz <= p.at' := by
 unfold pinE at h
 rw [if_neg h0] at h
 split at h
 ·omega
 ·split at h
  ·omega
  ·split at h
   ·omega
   ·omega
theorem legE_trust {l : List Int} {id : Int} (h : legE l = 0) (hid : 0 <= id /\ id < 4) : legE (trustL l id) = 0 := by
 unfold trustL
 split
 ·exact h
 ·rename_i hn
  obtain ⟨h1,h2⟩ := legE_zero.1 h
  refine legE_zero.2 ⟨fun x hx => ?_,sortI_sorted ?_⟩
  ·rcases List.mem_append.1 (mem_sortI.1 hx) with h | h
   ·exact h1 x h
   ·obtain rfl : x = id := by simpa using h
    exact hid
  ·rw [List.nodup_append]
   refine ⟨h2.imp (fun {a b} h => by omega),by simp,fun a ha b hb e => ?_⟩
   obtain rfl : b = id := by simpa using hb
   exact hn (inB_iff.2 (e ▸ ha))
theorem mem_trust {l : List Int} {id x : Int} : x ∈ trustL l id ↔ x ∈ l \/ x = id := by
 unfold trustL
 split
 ·rename_i h
  constructor
  ·exact .inl
  ·rintro (h1 | rfl)
   ·exact h1
   ·exact inB_iff.1 h
 ·rw [mem_sortI]
  simp
theorem member_range {ep : Int} {l : List Mem} {id : Int} (h : chk ep l = 0) (hm : anyId l id = true) : 0 <= id /\ id < 4 := by
 obtain ⟨m,hin,rfl⟩ := anyId_iff.1 hm
 exact (chk_zero h).2.2.2.id m hin
theorem Inv.apply {s : StR} {x : NoteR} (h : Inv s) (hg : 0 <= x.at' /\ 0 <= x.pin.at' /\ 0 <= x.fl) :
  Inv (applyS s x) /\ s.hz <= (applyS s x).hz /\ s.ep <= (applyS s x).ep /\ (applyE s x = 0 -> x.k = 6 -> s.pins.length < (applyS s x).pins.length -> s.hz <= x.pin.at') := by
 by_cases h0 : applyE s x = 0
 ·have hn := applyE_note h0
  obtain ⟨f1,f5,f4,f6,f8⟩ := applyE_at h0
  have hS : ∀ s',(if applyE s x ≠ 0 then s else s') = s' := fun s' => by rw [if_neg (by simpa using h0)]
  rcases applyE_case h0 with hk | hk | hk | hk | hk | hk
  ·obtain ⟨g1,g2,g3⟩ := nextE_zero (f1 hk)
   obtain ⟨g4,g5⟩ := noteE_conf hn hk
   have e : applyS s x = { s with ep := x.ep,ms := x.ms,fl := x.fl,lg := x.lg } := by unfold applyS;rw [hS,if_pos hk]
   rw [e]
   refine ⟨⟨.inr ⟨g4,g5,g2,g3,hg.2.2⟩,h.hz,h.pl,h.rise,h.pin,h.top,h.a0,h.a1,h.a2⟩,Int.le_refl _,Int.le_of_lt g1,fun _ h6 => by omega⟩
  ·have e : applyS s x = { s with lg := trustL s.lg x.n } := by unfold applyS;rw [hS,if_neg (by omega),if_pos hk]
   have hm := f5 hk
   rw [e]
   refine ⟨⟨?_,h.hz,h.pl,h.rise,h.pin,h.top,h.a0,h.a1,h.a2⟩,Int.le_refl _,Int.le_refl _,fun _ h6 => by omega⟩
   rcases h.conf with ⟨_,c1,_⟩ | ⟨c1,c2,c3,c4,c5⟩
   ·rw [c1] at hm;simp [anyId] at hm
   ·refine .inr ⟨c1,legE_trust c2 (member_range c1 hm),fun y hy => ?_,mem_trust.2 (.inl c4),c5⟩
    rcases mem_trust.1 hy with hy | rfl
    ·exact c3 y hy
    ·exact hm
  ·have e : applyS s x = { s with hz := x.at' } := by unfold applyS;rw [hS,if_neg (by omega),if_neg (by omega),if_pos hk]
   have := f4 hk
   rw [e]
   exact ⟨⟨h.conf,hg.1,h.pl,h.rise,h.pin,h.top,h.a0,h.a1,h.a2⟩,by show s.hz <= x.at';omega,Int.le_refl _,fun _ h6 => by omega⟩
  ·have e : applyS s x = pinS s x.pin := by unfold applyS;rw [hS,if_neg (by omega),if_neg (by omega),if_neg (by omega),if_pos hk]
   rw [e]
   unfold pinS
   split
   ·rename_i hp
    rw [renewed_same (fun p hp => (h.pin p hp).2.2.1) hp]
    exact ⟨h,Int.le_refl _,Int.le_refl _,fun _ _ hl => absurd hl (Nat.lt_irrefl _)⟩
   ·rename_i hp
    obtain ⟨g1,g2,g3⟩ := pinE_zero (f6 hk) hp
    obtain ⟨g4,g5⟩ := noteE_pin hn hk
    have ht := h.top
    refine ⟨⟨h.conf,h.hz,by simp;omega,?_,?_,⟨g4,g5⟩,h.a0,h.a1,h.a2⟩,Int.le_refl _,Int.le_refl _,fun _ _ _ => g3⟩
    ·rw [List.pairwise_append]
     refine ⟨h.rise,by simp,fun a ha b hb => ?_⟩
     obtain rfl : b = ⟨x.pin.id,x.pin.at',8⟩ := by simpa using hb
     have := (h.pin a ha).2.1
     show a.id < x.pin.id
     omega
    ·intro p hp
     rcases List.mem_append.1 hp with hp | hp
     ·obtain ⟨a1,a2,a3,a4⟩ := h.pin p hp
      exact ⟨a1,by show p.id <= x.pin.id;omega,a3,a4⟩
     ·obtain rfl : p = ⟨x.pin.id,x.pin.at',8⟩ := by simpa using hp
      exact ⟨by show 1 <= x.pin.id;omega,Int.le_refl _,rfl,hg.2.1⟩
  ·have e : applyS s x = { s with pins := freed s.pins x.n,top := max s.top x.n } := by unfold applyS;rw [hS,if_neg (by omega),if_neg (by omega),if_neg (by omega),if_neg (by omega),if_pos hk]
   obtain ⟨g1,g2⟩ := noteE_n hn hk
   have hsub := freed_sub s.pins x.n
   have ht := h.top
   rw [e]
   refine ⟨⟨h.conf,h.hz,Nat.le_trans hsub.length_le h.pl,h.rise.sublist hsub,fun p hp => ?_,?_,h.a0,h.a1,h.a2⟩,Int.le_refl _,Int.le_refl _,fun _ h6 => by omega⟩
   ·obtain ⟨a1,a2,a3,a4⟩ := h.pin p (hsub.subset hp)
    exact ⟨a1,by show p.id <= max s.top x.n;omega,a3,a4⟩
   ·show 0 <= max s.top x.n /\ max s.top x.n <= 1073741824
    omega
  ·have e : applyS s x = withTold s x.said := by unfold applyS;rw [hS,if_neg (by omega),if_neg (by omega),if_neg (by omega),if_neg (by omega),if_neg (by omega)]
   have hs := noteE_said hn hk
   rw [e]
   unfold withTold
   rcases said_cl hs with hc | hc | hc
   ·rw [if_pos hc]
    exact ⟨⟨h.conf,h.hz,h.pl,h.rise,h.pin,h.top,.inr ⟨hs,hc⟩,h.a1,h.a2⟩,Int.le_refl _,Int.le_refl _,fun _ h6 => by omega⟩
   ·rw [if_neg (by omega),if_pos hc]
    exact ⟨⟨h.conf,h.hz,h.pl,h.rise,h.pin,h.top,h.a0,.inr ⟨hs,hc⟩,h.a2⟩,Int.le_refl _,Int.le_refl _,fun _ h6 => by omega⟩
   ·rw [if_neg (by omega),if_neg (by omega)]
    exact ⟨⟨h.conf,h.hz,h.pl,h.rise,h.pin,h.top,h.a0,h.a1,.inr ⟨hs,hc⟩⟩,Int.le_refl _,Int.le_refl _,fun _ h6 => by omega⟩
 ·have e : applyS s x = s := by unfold applyS;rw [if_pos h0]
  rw [e]
  exact ⟨h,Int.le_refl _,Int.le_refl _,fun h1 => absurd h1 h0⟩
end Mst
end Go.Proofs.YtgffjliedjhbaaaGreat

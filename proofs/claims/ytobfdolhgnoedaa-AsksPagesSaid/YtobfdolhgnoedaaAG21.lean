/- Part 22 of what the proof needs. -/
import Derived.Test.YtobfdolhgnoedaaAG02
import Derived.Test.YtobfdolhgnoedaaAG12
import Derived.Test.YtobfdolhgnoedaaAG16
import Derived.Test.YtobfdolhgnoedaaAG18
import Derived.Test.YtobfdolhgnoedaaAG20
import Derived.Deep.QuietTactic
set_option linter.unusedSimpArgs false
set_option linter.unusedVariables false
set_option maxHeartbeats 32000000
set_option maxRecDepth 100000
namespace Go.Proofs.Ytobfdolhgnoedaa
open Go.RowKit
set_option maxRecDepth 100000
namespace Ask
open Plan Ops Ent Msg MO Vn
def inB (k f t : ByteArray) : Bool := !Op.bytesLess k.toList f.toList && (t.toList.isEmpty || Op.bytesLess k.toList t.toList)
def opsOf (l : List PairR) : List OpR := (l.filter fun p => decide (keyE p.key = 0)).map fun p => ⟨p.key,p.val,false⟩
def prOf (o : OpR) : PairR := ⟨o.key,o.val⟩
def betw (al : List OpR) (f t : ByteArray) : List PairR := (al.filter fun o => inB o.key f t).map prOf
theorem inB_iff (k f t : ByteArray) : inB k f t = true ↔ ¬ bl k < bl f /\ (bl t = [] \/ bl k < bl t) := by
 unfold inB bl
 simp only [ByteArray.toList_eq,Go.Proofs.bytesLess_eq,Bool.and_eq_true,Bool.or_eq_true,Bool.not_eq_true',decide_eq_true_eq,decide_eq_false_iff_not,List.isEmpty_iff]
theorem lt_of_lt_le {x y z : BL} (h : x < y) (h2 : y <= z) : x < z := by
 by_cases e : y = z
 ·rw [<- e];exact h
 ·exact List.lt_trans h (Keys.lt_of_le_ne h2 e)
def Rises (al : List OpR) : Prop := al.Pairwise fun a b => bl a.key < bl b.key
theorem rises_drop {L : List OpR} (h : Rises L) : ∀ {p : Nat} {o : OpR},L[p]? = some o -> L.drop (p + 1) = L.filter fun x => decide (bl o.key < bl x.key) := by
 induction L with
 | nil => intro p o h;simp at h
 | cons a L ih =>
  intro p o hp
  have h2 := List.pairwise_cons.1 h
  cases p with
  | zero =>
   simp at hp
   subst hp
   rw [List.drop_succ_cons,List.drop_zero,List.filter_cons,if_neg (by simp [List.lt_irrefl]),List.filter_eq_self.2]
   intro x hx
   exact decide_eq_true (h2.1 x hx)
  | succ p =>
   rw [List.getElem?_cons_succ] at hp
   have ho := h2.1 o (List.mem_of_getElem? hp)
   rw [List.drop_succ_cons,ih h2.2 hp,List.filter_cons,if_neg (by simpa using List.le_of_lt ho)]
theorem next_lt {s : ByteArray} (h : Keys.nextL (bl s) ≠ []) : bl s < Keys.nextL (bl s) := by
 have := (Keys.nextL_gt (bl s) h).1
 rw [Go.Proofs.bytesLess_eq] at this
 exact of_decide_eq_true this
theorem next_le {s x : ByteArray} (hx : x.size <= 8) (h : bl s < bl x) : Keys.nextL (bl s) ≠ [] /\ ¬ bl x < Keys.nextL (bl s) := by
 have := Keys.nextL_least (bl s) (bl x) (by rw [size_bl];exact hx) (by rw [Go.Proofs.bytesLess_eq];exact decide_eq_true h)
 refine ⟨this.1,?_⟩
 have h2 := this.2
 rw [Go.Proofs.bytesLess_eq] at h2
 exact of_decide_eq_false h2
theorem filter_congr' {α : Type} {p q : α -> Bool} {l : List α} (h : ∀ x ∈ l,p x = q x) : l.filter p = l.filter q := List.filter_congr h
theorem next_page {al : List OpR} (hs : Rises al) (h8 : ∀ o ∈ al,o.key.size <= 8) {f t : ByteArray} {p : Nat} {o : OpR} (hp : (al.filter fun o => inB o.key f t)[p]? = some o) (hn : Keys.nextL (bl o.key) ≠ []) :
  (al.filter fun x => inB x.key (ofL (Keys.nextL (bl o.key))) t) = (al.filter fun o => inB o.key f t).drop (p + 1) := by
 have ho := (List.mem_filter.1 (List.mem_of_getElem? hp)).2
 rw [inB_iff] at ho
 rw [rises_drop (List.Pairwise.sublist List.filter_sublist hs) hp,List.filter_filter]
 refine filter_congr' fun x hx => ?_
 rw [Bool.eq_iff_iff,Bool.and_eq_true,inB_iff,inB_iff,decide_eq_true_eq,bl_ofL]
 constructor
 ·rintro ⟨h1,h2⟩
  have h3 : bl o.key < bl x.key := lt_of_lt_le (next_lt hn) (List.not_lt.1 h1)
  exact ⟨h3,fun h4 => ho.1 (List.lt_trans h3 h4),h2⟩
 ·rintro ⟨h1,_,h3⟩
  exact ⟨(next_le (h8 x hx) h1).2,h3⟩
def askG (f t : ByteArray) (many : Nat) : AskR := ⟨2,0,f,t,9,many,none,0,[]⟩
def stG (f t : ByteArray) (many : Nat) (S : List PairR) (p : Nat) (K : ByteArray) : TS := { newT 1 2 (askG f t many) with key := K,ps := S.take p }
def msgG (K : ByteArray) (fl : Bool) (A : Option Addr) (c : Nat) (ps : List PairR) : MsgR := { zmsg with k := 10,req := 2,key := K,at' := 9,fl := fl,pA := A,pc := c,ps := ps }
def sizeG (many p : Nat) : Nat := min 2 (many - p)
theorem sizeT_G {f t : ByteArray} {many p : Nat} {S : List PairR} {K : ByteArray} (hp : p <= S.length) (hm : p < many) : sizeT (stG f t many S p K) = (sizeG many p : Nat) := by
 have h1 : (stG f t many S p K).ps.length = p := by show (S.take p).length = p;rw [List.length_take];omega
 unfold sizeT
 rw [h1]
 show min (2 : Int) ((many : Int) - p) = _
 unfold sizeG
 omega
theorem next_G {f t : ByteArray} {many p : Nat} {S : List PairR} {K : ByteArray} (hp : p <= S.length) (hm : p < many) : nextT (stG f t many S p K) 0 (-1) = (0,{ zmsg with k := 9,req := 2,key := K,to := t,at' := 9,n := (sizeG many p : Nat) }) := by
 have h1 : nextT (stG f t many S p K) 0 (-1) = (0,{ zmsg with k := 9,req := 2,key := K,to := t,at' := 9,n := sizeT (stG f t many S p K) }) := rfl
 rw [h1,sizeT_G hp hm]
def doneG (f t : ByteArray) (many : Nat) (S : List PairR) (t' : TS) : Prop := t'.dn = true /\ ∃ n,t'.r = ⟨n,0,9,0,S.take many⟩
theorem step_G {al : List OpR} (hs : Rises al) (h8 : ∀ o ∈ al,o.key.size <= 8) {f t : ByteArray} {many p : Nat} {K : ByteArray} (hm : p < many) (hp : p <= (betw al f t).length) (hK : betw al K t = (betw al f t).drop p) (A : Option Addr) (c : Nat) :
  (∃ K',takeT (stG f t many (betw al f t) p K) 0 (msgG K (decide (sizeG many p < (betw al K t).length)) A c ((betw al K t).take (sizeG many p))) = (stG f t many (betw al f t) (p + 2) K',true) /\ p + 2 < many /\ p + 2 <= (betw al f t).length /\ betw al K' t = (betw al f t).drop (p + 2)) \/
  (∃ t',takeT (stG f t many (betw al f t) p K) 0 (msgG K (decide (sizeG many p < (betw al K t).length)) A c ((betw al K t).take (sizeG many p))) = (t',false) /\ doneG f t many (betw al f t) t') := by
 obtain ⟨S,hS⟩ : ∃ S,betw al f t = S := ⟨_,rfl⟩
 have hS2 := hS
 rw [hS] at hp hK ⊢
 rw [hK]
 obtain ⟨x,hx⟩ : ∃ x,msgG K (decide (sizeG many p < (S.drop p).length)) A c ((S.drop p).take (sizeG many p)) = x := ⟨_,rfl⟩
 have hxf : x.fl = decide (sizeG many p < (S.drop p).length) := by rw [<- hx];rfl
 have hxp : x.ps = (S.drop p).take (sizeG many p) := by rw [<- hx];rfl
 have htk : takeT (stG f t many S p K) 0 x = pageT (stG f t many S p K) x := by
  rw [<- hx]
  show (if _ \/ _ \/ _ then _ else _) = _
  rw [if_neg (by rintro (e | e | e);cases e;exact e rfl;cases e)]
  show (if _ then _ else if _ then _ else _) = _
  rw [if_neg (show ¬ (stG f t many S p K).ph = 0 from (by decide : ¬ (1 : Nat) = 0)),if_pos (show (stG f t many S p K).ph = 1 from rfl)]
  unfold takeR
  rw [if_neg (by rintro ⟨e,_⟩;cases e),if_neg (by rintro (e | e | e);exact e rfl;exact e rfl;exact e rfl),if_neg (fun e => e rfl)]
 rw [hx,htk]
 have hsz := sizeT_G (f := f) (t := t) (K := K) hp hm
 have hpl : pageL (stG f t many S p K) x = (S.drop p).take (sizeG many p) := by
  unfold pageL
  rw [hsz,hxp,Int.toNat_natCast,List.take_take,Nat.min_self]
 obtain ⟨z,hz⟩ : ∃ z,sizeG many p = z := ⟨_,rfl⟩
 have hz1 : z = min 2 (many - p) := hz.symm
 rw [hz] at hxf hxp hpl hsz
 have hdl : (S.drop p).length = S.length - p := List.length_drop
 have hll : ((S.drop p).take z).length = min z (S.length - p) := by rw [List.length_take,hdl]
 have hpsl : (stG f t many S p K).ps.length = p := by show (S.take p).length = p;rw [List.length_take];omega
 have hps : (stG f t many S p K).ps = S.take p := rfl
 by_cases hgo : p + 2 < many /\ p + 2 < S.length
 ·-- another one
  left
  have hz2 : z = 2 := by omega
  have hmap : S = (al.filter fun o => inB o.key f t).map prOf := by rw [<- hS2];rfl
  have hlen : (al.filter fun o => inB o.key f t).length = S.length := by rw [hmap,List.length_map]
  obtain ⟨o,ho⟩ : ∃ o,(al.filter fun o => inB o.key f t)[p + 1]? = some o := ⟨_,List.getElem?_eq_getElem (by omega)⟩
  obtain ⟨o2,ho2⟩ : ∃ o2,(al.filter fun o => inB o.key f t)[p + 2]? = some o2 := ⟨_,List.getElem?_eq_getElem (by omega)⟩
  have hrs : Rises (al.filter fun o => inB o.key f t) := List.Pairwise.sublist List.filter_sublist hs
  have hlt : bl o.key < bl o2.key := by
   obtain ⟨i1,e1⟩ := List.getElem?_eq_some_iff.1 ho
   obtain ⟨i2,e2⟩ := List.getElem?_eq_some_iff.1 ho2
   have := List.pairwise_iff_getElem.1 hrs (p + 1) (p + 2) i1 i2 (by omega)
   rwa [e1,e2] at this
  have hn := (next_le (h8 o2 (List.mem_filter.1 (List.mem_of_getElem? ho2)).1) hlt).1
  have hnk : nextKey ((S.drop p).take z) = ofL (Keys.nextL (bl o.key)) := by
   unfold nextKey
   rw [List.getLast?_eq_getElem?,hll,hz2,List.getElem?_take,if_pos (by omega),List.getElem?_drop,show p + (min 2 (S.length - p) - 1) = p + 1 by omega,hmap,List.getElem?_map,ho]
   rfl
  have hne : ofL (Keys.nextL (bl o.key)) ≠ emp := fun e => hn (by
   have := congrArg bl e
   rw [bl_ofL] at this
   exact this)
  have hg : goesOn (stG f t many S p K) x = true := by
   unfold goesOn
   rw [hpl,hll,hnk,hxf,hdl,hpsl,decide_eq_true (show z < S.length - p by omega),decide_eq_true (show 0 < min z (S.length - p) by omega),decide_eq_true hne,decide_eq_true (show ((p + min z (S.length - p) : Nat) : Int) < (stG f t many S p K).a.n by show ((p + min z (S.length - p) : Nat) : Int) < (many : Int);omega)]
   rfl
  refine ⟨ofL (Keys.nextL (bl o.key)),?_,hgo.1,by omega,?_⟩
  ·unfold pageT
   rw [if_pos hg,hpl,hnk,hps,hz2]
   have e1 : S.take p ++ (S.drop p).take 2 = S.take (p + 2) := by rw [List.take_add]
   rw [e1]
   rfl
  ·unfold betw
   rw [next_page hs h8 ho hn,hmap,List.map_drop]
 ·right
  have hg : goesOn (stG f t many S p K) x = false := by
   unfold goesOn
   rw [hpl,hll,hxf,hdl,hpsl]
   by_cases h1 : z < S.length - p
   ·rw [decide_eq_false (show ¬ ((p + min z (S.length - p) : Nat) : Int) < (stG f t many S p K).a.n by show ¬ ((p + min z (S.length - p) : Nat) : Int) < (many : Int);omega)]
    simp
   ·rw [decide_eq_false h1];rfl
  refine ⟨_,by unfold pageT;rw [if_neg (by rw [hg];decide)],rfl,2,?_⟩
  have e1 : S.take p ++ (S.drop p).take z = S.take many := by
   rw [<- List.take_add]
   rcases Nat.lt_or_ge (p + z) S.length with h1 | h1
   ·congr 1;omega
   ·rw [List.take_of_length_le h1,List.take_of_length_le (by omega)]
  show (⟨2,0,9,0,(stG f t many S p K).ps ++ pageL (stG f t many S p K) x⟩ : RepR) = _
  rw [hpl,hps,e1]
theorem keyE_zero {s : ByteArray} (h : keyE s = 0) : 1 <= s.size /\ s.size <= 8 := by
 unfold keyE at h
 split at h
 ·cases h
 ·omega
theorem norm_key {m : List OpR} {x : BL} (h : x ∈ normK m) : bl ((lastF m x).getD o0).key = x /\ (lastF m x).getD o0 ∈ m := by
 obtain ⟨o,ho⟩ := lastF_some (normK_mem.1 h)
 rw [ho]
 exact lastF_key ho
theorem norm_rises (m : List OpR) : Rises (normL m) := by
 unfold Rises normL
 rw [List.pairwise_map]
 refine List.Pairwise.imp_of_mem ?_ (Keys.set_rises (m.map fun o => bl o.key))
 intro a b ha hb hab
 rw [(norm_key ha).1,(norm_key hb).1]
 exact hab
theorem norm_mem {m : List OpR} {o : OpR} (h : o ∈ normL m) : o ∈ m := by
 unfold normL at h
 obtain ⟨x,hx,rfl⟩ := List.mem_map.1 h
 exact (norm_key hx).2
theorem all_ok (l : List PairR) : Rises (normL (opsOf l)) /\ ∀ o ∈ normL (opsOf l),o.key.size <= 8 := by
 refine ⟨norm_rises _,fun o ho => ?_⟩
 have h1 := norm_mem ho
 unfold opsOf at h1
 obtain ⟨p,hp,rfl⟩ := List.mem_map.1 h1
 exact (keyE_zero (of_decide_eq_true (List.mem_filter.1 hp).2)).2
end Ask
namespace Ask
open Plan Ops Ent Msg MO Vn
attribute [local go_sem ↓] storeVar_msg loadVar_msg
structure DX where
 b : Nat
 bA : Option Addr
 bc : Nat
 pA : Option Addr
 pc : Nat
 rA : Option Addr
 rc : Nat
def dcell (X : DX) (t : TS) : List Value := [.int .i64 t.cl,.int .i64 t.rq,.slice X.bA t.bo.length X.bc,.int .i64 t.a.k,.int .i64 t.a.nd,.string t.a.key,.string t.a.to,.int .u64 t.a.at',.int .i64 t.a.n,.slice none 0 0,.int .i64 t.ph,.int .u64 t.at',.string t.key,.slice X.pA t.ps.length X.pc,.int .i64 t.waits,.bool t.dn,
 .int .i64 t.r.req,.int .i64 t.r.e,.int .u64 t.r.at',.int .i64 t.r.pin,.slice X.rA t.r.ps.length X.rc]
structure DAt (w : World) (X : DX) (t : TS) : Prop where
 b : Has w X.b 62 (dcell X t).toArray
 bo : w.ownsRow 0 70 3 (.slice X.bA t.bo.length X.bc) t.bo.length (cells t.bo)
 p : w.ownsRow 0 68 2 (.slice X.pA t.ps.length X.pc) t.ps.length (pcells t.ps)
 r : w.ownsRow 0 68 2 (.slice X.rA t.r.ps.length X.rc) t.r.ps.length (pcells t.r.ps)
 nd : t.dn = false -> t.r = rep0 /\ X.rA = none /\ X.rc = 0
def footD (X : DX) (t : TS) (k : Nat) : Prop := k = X.b \/ (Value.slice X.pA t.ps.length X.pc).ownBlock = some k \/ (Value.slice X.bA t.bo.length X.bc).ownBlock = some k \/ (Value.slice X.rA t.r.ps.length X.rc).ownBlock = some k
section
variable {w w' : World} {X : DX} {t : TS} {G : Nat -> Prop}
theorem DAt.keptG (h : DAt w X t) (hk : Kept G w w') (hs : ∀ k,footD X t k -> ¬ G k) : DAt w' X t :=
 ⟨h.b.kept hk (hs _ (.inl rfl)),own_kept h.bo hk (fun k hk => hs k (.inr (.inr (.inl hk)))),own_kept h.p hk (fun k hk => hs k (.inr (.inl hk))),own_kept h.r hk (fun k hk => hs k (.inr (.inr (.inr hk)))),h.nd⟩
theorem DAt.quiet (h : DAt w X t) (hk : Kept NoF w w') : DAt w' X t := h.keptG hk (fun _ _ z => z)
theorem DAt.lt (h : DAt w X t) {k : Nat} (hf : footD X t k) : k < w.heap.size := by
 rcases hf with rfl | hf | hf | hf
 ·exact h.b.lt
 ·exact own_lt h.p hf
 ·exact own_lt h.bo hf
 ·exact own_lt h.r hf
def DPost (w : World) (X : DX) (t : TS) (v : Value) (t' : TS) (e : Ending) (w' : World) : Prop :=
 e = .returned v /\ ∃ X',DAt w' X' t' /\ X'.b = X.b /\ (∀ k,footD X' t' k -> footD X t k \/ w.heap.size <= k) /\ Kept (footD X t) w w'
theorem DPost.same {v : Value} (h : DAt w X t) {w2 : World} (hk : Kept NoF w w2) : DPost w X t v t (.returned v) w2 := ⟨rfl,X,h.quiet hk,rfl,fun k hk => .inl hk,hk.mono (fun _ z => z.elim)⟩
end
end Ask
namespace Ask
open Plan Ops Ent Msg MO Vn
section
variable {w w' : World}
theorem rkcheckA (w : World) (s : ByteArray) : Calls Try.prog 23 #[.string s] w fun e w' => e = .returned (.int .i64 (keyE s)) /\ w = w' := rkcheck_any s w
end
end Ask
end Go.Proofs.Ytobfdolhgnoedaa

/- Part 16 of what the proof needs. -/
import Derived.Test.YtobfdolhgnoedaaAP14
set_option linter.unusedSimpArgs false
set_option linter.unusedVariables false
set_option maxHeartbeats 32000000
set_option maxRecDepth 100000
namespace Go.Proofs.Ytobfdolhgnoedaa
open Go.RowKit
set_option maxRecDepth 100000
namespace Ask
open Plan Ops Ent Msg MO Vn
attribute [local go_sem ↓] storeVar_msg loadVar_msg
structure DX where
 b : Nat
 bA : Option Addr
 bc : Nat
 pA : Option Addr
 pc : Nat
 rA : Option Addr
 rc : Nat
def dcell (X : DX) (t : TS) : List Value := [.int .i64 t.cl,.int .i64 t.rq,.slice X.bA t.bo.length X.bc,.int .i64 t.a.k,.int .i64 t.a.nd,.string t.a.key,.string t.a.to,.int .u64 t.a.at',.int .i64 t.a.n,.slice none 0 0,.int .i64 t.ph,.int .u64 t.at',.string t.key,.slice X.pA t.ps.length X.pc,.int .i64 t.waits,.bool t.dn,
 .int .i64 t.r.req,.int .i64 t.r.e,.int .u64 t.r.at',.int .i64 t.r.pin,.slice X.rA t.r.ps.length X.rc]
structure DAt (w : World) (X : DX) (t : TS) : Prop where
 b : Has w X.b 62 (dcell X t).toArray
 bo : w.ownsRow 0 70 3 (.slice X.bA t.bo.length X.bc) t.bo.length (cells t.bo)
 p : w.ownsRow 0 68 2 (.slice X.pA t.ps.length X.pc) t.ps.length (pcells t.ps)
 r : w.ownsRow 0 68 2 (.slice X.rA t.r.ps.length X.rc) t.r.ps.length (pcells t.r.ps)
 nd : t.dn = false -> t.r = rep0 /\ X.rA = none /\ X.rc = 0
def footD (X : DX) (t : TS) (k : Nat) : Prop := k = X.b \/ (Value.slice X.pA t.ps.length X.pc).ownBlock = some k \/ (Value.slice X.bA t.bo.length X.bc).ownBlock = some k \/ (Value.slice X.rA t.r.ps.length X.rc).ownBlock = some k
section
variable {w w' : World} {X : DX} {t : TS} {G : Nat -> Prop}
theorem DAt.keptG (h : DAt w X t) (hk : Kept G w w') (hs : ∀ k,footD X t k -> ¬ G k) : DAt w' X t :=
 ⟨h.b.kept hk (hs _ (.inl rfl)),own_kept h.bo hk (fun k hk => hs k (.inr (.inr (.inl hk)))),own_kept h.p hk (fun k hk => hs k (.inr (.inl hk))),own_kept h.r hk (fun k hk => hs k (.inr (.inr (.inr hk)))),h.nd⟩
theorem DAt.quiet (h : DAt w X t) (hk : Kept NoF w w') : DAt w' X t := h.keptG hk (fun _ _ z => z)
theorem DAt.lt (h : DAt w X t) {k : Nat} (hf : footD X t k) : k < w.heap.size := by
 rcases hf with rfl | hf | hf | hf
 ·exact h.b.lt
 ·exact own_lt h.p hf
 ·exact own_lt h.bo hf
 ·exact own_lt h.r hf
theorem DAt.upd {t' : TS} (h : DAt w X t) (hk : Kept (fun k => k = X.b) w w') (hb : Has w' X.b 62 (dcell X t').toArray) (hbo : t'.bo = t.bo) (hps : t'.ps = t.ps) (hr : t'.r = t.r) (hd : t'.dn = t.dn) : DAt w' X t' := by
 have hne : ∀ {e : TypeId} {size n : Nat} {v : Value} {xs : List Value},w.ownsRow 0 e size v n xs -> e ≠ 62 -> w'.ownsRow 0 e size v n xs := fun ho he => own_kept ho hk (fun k hk2 e2 => own_ne ho h.b he (e2 ▸ hk2))
 refine ⟨hb,?_,?_,?_,?_⟩
 ·rw [hbo];exact hne h.bo (by decide)
 ·rw [hps];exact hne h.p (by decide)
 ·rw [hr];exact hne h.r (by decide)
 ·rw [hd,hr];exact h.nd
theorem dreplica_any (w : World) (i : Int) : Calls Try.prog 39 #[.int .i64 i] w fun e w' => e = .returned (.bool (decide (0 <= i /\ i < 4))) /\ w = w' := by
 obtain ⟨v,hv⟩ : ∃ v,decide (0 <= i /\ i < 4) = v := ⟨_,rfl⟩
 rw [hv]
 go_enter Try.func39,Try.ntmps39
 by_cases h0 : 0 <= i
 ·by_cases h1 : i < 4
  ·go_wp2
   go_ret
   exact ⟨by rw [<- hv];simp [h0,h1],rfl⟩
  ·go_wp2
   go_ret
   exact ⟨by rw [<- hv];simp [h0,h1],rfl⟩
 ·go_wp2
  go_ret
  exact ⟨by rw [<- hv];simp;omega,rfl⟩
theorem dsize_any (h : DAt w X t) (hok : TOk t) : Calls Try.prog 33 #[.pointer (some ⟨X.b,0,none⟩)] w fun e w' => e = .returned (.int .i64 (sizeT t)) /\ Kept NoF w w' := by
 have hg := h.b
 obtain ⟨gb,hgb⟩ : ∃ gb,X.b = gb := ⟨_,rfl⟩
 rw [hgb] at hg ⊢
 have q1 : w.cell? ⟨gb,8,none⟩ = some (.int .i64 t.a.n) := hg.cell 8
 have q2 : w.cell? ⟨gb,13,none⟩ = some (.slice X.pA t.ps.length X.pc) := hg.cell 13
 have hi := hok.i64
 obtain ⟨d,hd⟩ : ∃ d,t.a.n - (t.ps.length : Int) = d := ⟨_,rfl⟩
 rw [hd] at hi
 have hl : t.ps.length <= 9223372036854775807 := by have := hok.ps.1;omega
 have hwr : IntKind.i64.wrap (t.a.n - (t.ps.length : Int)) = d := by rw [hd];exact IntWalk.i64_in _ hi
 have hmn := run_min 2 d _ rfl
 have hs : sizeT t = min 2 d := by unfold sizeT;rw [hd]
 rw [hs]
 clear h hg hd hs hok
 go_enter Try.func33,Try.ntmps33
 go_wp2
 go_quiet (fail)
 go_wp2
 go_ret
 exact ⟨rfl,by (repeat' (first | (with_reducible first | exact kR0 | apply kP0 | apply kN0 | apply kD0 | apply kA0) | (right;simp;done)))⟩
def DPost (w : World) (X : DX) (t : TS) (v : Value) (t' : TS) (e : Ending) (w' : World) : Prop :=
 e = .returned v /\ ∃ X',DAt w' X' t' /\ X'.b = X.b /\ (∀ k,footD X' t' k -> footD X t k \/ w.heap.size <= k) /\ Kept (footD X t) w w'
theorem DPost.same {v : Value} (h : DAt w X t) {w2 : World} (hk : Kept NoF w w2) : DPost w X t v t (.returned v) w2 := ⟨rfl,X,h.quiet hk,rfl,fun k hk => .inl hk,hk.mono (fun _ z => z.elim)⟩
theorem footD_endr {r : RepR} {A : Option Addr} {c : Nat} (hr : ∀ k,(Value.slice A r.ps.length c).ownBlock = some k -> footD X t k \/ w.heap.size <= k) {k : Nat} (hk : footD { X with rA := A,rc := c } (endT t r) k) : footD X t k \/ w.heap.size <= k := by
 rcases hk with e | e | e | e
 ·exact .inl (.inl e)
 ·exact .inl (.inr (.inl e))
 ·exact .inl (.inr (.inr (.inl e)))
 ·exact hr k e
theorem DPost.of_end {t' : TS} {r : RepR} {A : Option Addr} {c : Nat} {w1 w2 : World} {v : Value} (hk : Kept (footD X t) w w1) (h2 : DAt w2 { X with rA := A,rc := c } (endT t' r)) (hk2 : Kept (fun k => k = X.b) w1 w2)
  (hf : ∀ k,footD { X with rA := A,rc := c } (endT t' r) k -> footD X t k \/ w.heap.size <= k) : DPost w X t v (endT t' r) (.returned v) w2 :=
 ⟨rfl,_,h2,rfl,hf,hk.then (hk2.mono (fun k e => .inl e))⟩
theorem dend_any (h : DAt w X t) (r : RepR) (A : Option Addr) (c : Nat) (hr : w.ownsRow 0 68 2 (.slice A r.ps.length c) r.ps.length (pcells r.ps)) :
  Calls Try.prog 38 #[.pointer (some ⟨X.b,0,none⟩),ragg r A c] w fun e w' => e = .returned (.tuple #[]) /\ DAt w' { X with rA := A,rc := c } (endT t r) /\ Kept (fun k => k = X.b) w w' := by
 obtain ⟨bb,bA,bc,pA,pc,rA,rc⟩ := X
 obtain ⟨W0,hW0⟩ : ∃ W0,w.alloc (.cells (rcell r A c).toArray 46) = W0 := ⟨_,rfl⟩
 have hk0 : Kept NoF w W0 := by rw [<- hW0];(repeat' (first | (with_reducible first | exact kR0 | apply kP0 | apply kN0 | apply kD0 | apply kA0) | (right;simp;done)))
 have hn0 : Has W0 w.heap.size 46 (rcell r A c).toArray := by rw [<- hW0];exact Has.new _ _ _
 have hne : w.heap.size ≠ bb := fun e => by have := h.b.lt;dsimp only at this;omega
 have hb0 := h.b.kept hk0 (fun z => z)
 have hh : ∀ w',Has w' bb 62 (dcell ⟨bb,bA,bc,pA,pc,A,c⟩ (endT t r)).toArray -> Kept (fun k => k = bb) W0 w' -> DAt w' ⟨bb,bA,bc,pA,pc,A,c⟩ (endT t r) /\ Kept (fun k => k = bb) w w' := fun w' hb hk => by
  have hkk := (hk0.mono (G := fun k => k = bb) (fun _ z => z.elim)).then hk
  exact ⟨⟨hb,own_kept h.bo hkk (fun k hk2 e2 => own_ne h.bo h.b (by decide) (e2 ▸ hk2)),own_kept h.p hkk (fun k hk2 e2 => own_ne h.p h.b (by decide) (e2 ▸ hk2)),own_kept hr hkk (fun k hk2 e2 => own_ne hr h.b (by decide) (e2 ▸ hk2)),fun e => by cases e⟩,hkk⟩
 have HH := hZ0 hh
 unfold dcell at hb0
 dsimp only at hb0
 have b1 : W0.cell? ⟨bb,1,none⟩ = some (.int .i64 t.rq) := hb0.cell 1
 have b15 : W0.cell? ⟨bb,15,none⟩ = some (.bool t.dn) := hb0.cell 15
 have b16 : W0.cell? ⟨bb,16,none⟩ = some (.int .i64 t.r.req) := hb0.cell 16
 have b17 : W0.cell? ⟨bb,17,none⟩ = some (.int .i64 t.r.e) := hb0.cell 17
 have b18 : W0.cell? ⟨bb,18,none⟩ = some (.int .u64 t.r.at') := hb0.cell 18
 have b19 : W0.cell? ⟨bb,19,none⟩ = some (.int .i64 t.r.pin) := hb0.cell 19
 have b20 : W0.cell? ⟨bb,20,none⟩ = some (.slice rA t.r.ps.length rc) := hb0.cell 20
 have f15 := hb0.frozen 15;have f16 := hb0.frozen 16;have f17 := hb0.frozen 17;have f18 := hb0.frozen 18;have f19 := hb0.frozen 19;have f20 := hb0.frozen 20
 have a0 : W0.cell? ⟨w.heap.size,0,none⟩ = some (.int .i64 r.req) := hn0.cell 0
 have a1 : W0.cell? ⟨w.heap.size,1,none⟩ = some (.int .i64 r.e) := hn0.cell 1
 have a2 : W0.cell? ⟨w.heap.size,2,none⟩ = some (.int .u64 r.at') := hn0.cell 2
 have a3 : W0.cell? ⟨w.heap.size,3,none⟩ = some (.int .i64 r.pin) := hn0.cell 3
 have a4 : W0.cell? ⟨w.heap.size,4,none⟩ = some (.slice A r.ps.length c) := hn0.cell 4
 have HB0 := hZ0 hb0
 unfold rcell at hW0
 unfold ragg rcell
 clear hh hk0 hn0 hb0 h hr
 go_enter Try.func38,Try.ntmps38
 go_wp2
 go_end0
 refine ⟨rfl,HH.out _ ?_ ?_⟩
 ·have e9 : (dcell ⟨bb,bA,bc,pA,pc,A,c⟩ (endT t r)).toArray = #[.int .i64 t.cl,.int .i64 t.rq,.slice bA t.bo.length bc,.int .i64 t.a.k,.int .i64 t.a.nd,.string t.a.key,.string t.a.to,.int .u64 t.a.at',.int .i64 t.a.n,.slice none 0 0,.int .i64 t.ph,.int .u64 t.at',.string t.key,.slice pA t.ps.length pc,.int .i64 t.waits,.bool true,.int .i64 t.rq,.int .i64 r.e,.int .u64 r.at',.int .i64 r.pin,.slice A r.ps.length c] := rfl
  rw [e9]
  have g1 := Has.put_of (cs' := #[.int .i64 t.cl,.int .i64 t.rq,.slice bA t.bo.length bc,.int .i64 t.a.k,.int .i64 t.a.nd,.string t.a.key,.string t.a.to,.int .u64 t.a.at',.int .i64 t.a.n,.slice none 0 0,.int .i64 t.ph,.int .u64 t.at',.string t.key,.slice pA t.ps.length pc,.int .i64 t.waits,.bool true,.int .i64 t.r.req,.int .i64 t.r.e,.int .u64 t.r.at',.int .i64 t.r.pin,.slice rA t.r.ps.length rc]) (i := 15) (u := .bool true) HB0.out rfl
  have g2 := Has.put_of (cs' := #[.int .i64 t.cl,.int .i64 t.rq,.slice bA t.bo.length bc,.int .i64 t.a.k,.int .i64 t.a.nd,.string t.a.key,.string t.a.to,.int .u64 t.a.at',.int .i64 t.a.n,.slice none 0 0,.int .i64 t.ph,.int .u64 t.at',.string t.key,.slice pA t.ps.length pc,.int .i64 t.waits,.bool true,.int .i64 r.req,.int .i64 t.r.e,.int .u64 t.r.at',.int .i64 t.r.pin,.slice rA t.r.ps.length rc]) (i := 16) (u := .int .i64 r.req) g1 rfl
  have g3 := Has.put_of (cs' := #[.int .i64 t.cl,.int .i64 t.rq,.slice bA t.bo.length bc,.int .i64 t.a.k,.int .i64 t.a.nd,.string t.a.key,.string t.a.to,.int .u64 t.a.at',.int .i64 t.a.n,.slice none 0 0,.int .i64 t.ph,.int .u64 t.at',.string t.key,.slice pA t.ps.length pc,.int .i64 t.waits,.bool true,.int .i64 r.req,.int .i64 r.e,.int .u64 t.r.at',.int .i64 t.r.pin,.slice rA t.r.ps.length rc]) (i := 17) (u := .int .i64 r.e) g2 rfl
  have g4 := Has.put_of (cs' := #[.int .i64 t.cl,.int .i64 t.rq,.slice bA t.bo.length bc,.int .i64 t.a.k,.int .i64 t.a.nd,.string t.a.key,.string t.a.to,.int .u64 t.a.at',.int .i64 t.a.n,.slice none 0 0,.int .i64 t.ph,.int .u64 t.at',.string t.key,.slice pA t.ps.length pc,.int .i64 t.waits,.bool true,.int .i64 r.req,.int .i64 r.e,.int .u64 r.at',.int .i64 t.r.pin,.slice rA t.r.ps.length rc]) (i := 18) (u := .int .u64 r.at') g3 rfl
  have g5 := Has.put_of (cs' := #[.int .i64 t.cl,.int .i64 t.rq,.slice bA t.bo.length bc,.int .i64 t.a.k,.int .i64 t.a.nd,.string t.a.key,.string t.a.to,.int .u64 t.a.at',.int .i64 t.a.n,.slice none 0 0,.int .i64 t.ph,.int .u64 t.at',.string t.key,.slice pA t.ps.length pc,.int .i64 t.waits,.bool true,.int .i64 r.req,.int .i64 r.e,.int .u64 r.at',.int .i64 r.pin,.slice rA t.r.ps.length rc]) (i := 19) (u := .int .i64 r.pin) g4 rfl
  have g6 := Has.put_of (cs' := #[.int .i64 t.cl,.int .i64 t.rq,.slice bA t.bo.length bc,.int .i64 t.a.k,.int .i64 t.a.nd,.string t.a.key,.string t.a.to,.int .u64 t.a.at',.int .i64 t.a.n,.slice none 0 0,.int .i64 t.ph,.int .u64 t.at',.string t.key,.slice pA t.ps.length pc,.int .i64 t.waits,.bool true,.int .i64 r.req,.int .i64 r.e,.int .u64 r.at',.int .i64 r.pin,.slice A r.ps.length c]) (i := 20) (u := .slice A r.ps.length c) g5 rfl
  have g7 := Has.put_of (cs' := #[.int .i64 t.cl,.int .i64 t.rq,.slice bA t.bo.length bc,.int .i64 t.a.k,.int .i64 t.a.nd,.string t.a.key,.string t.a.to,.int .u64 t.a.at',.int .i64 t.a.n,.slice none 0 0,.int .i64 t.ph,.int .u64 t.at',.string t.key,.slice pA t.ps.length pc,.int .i64 t.waits,.bool true,.int .i64 t.rq,.int .i64 r.e,.int .u64 r.at',.int .i64 r.pin,.slice A r.ps.length c]) (i := 16) (u := .int .i64 t.rq) g6 rfl
  first | exact g7 | exact g7.drew
 ·(repeat' (first | (with_reducible first | exact kR0 | apply kP0 | apply kN0 | apply kD0 | apply kA0) | (exact .inl rfl) | (right;simp;done)))
theorem ddone_any (h : DAt w X t) : Calls Try.prog 20 #[.pointer (some ⟨X.b,0,none⟩)] w fun e w' => ∃ A c,e = .returned (.tuple #[ragg (repT t) A c,.bool t.dn]) /\ Src w' 2 A (repT t).ps.length (pcells (repT t).ps) /\ Kept NoF w w' := by
 obtain ⟨W0,hW0⟩ : ∃ W0,w.alloc (.cells #[.int .i64 0,.int .i64 0,.int .u64 0,.int .i64 0,.slice none 0 0] 46) = W0 := ⟨_,rfl⟩
 have hk0 : Kept NoF w W0 := by rw [<- hW0];(repeat' (first | (with_reducible first | exact kR0 | apply kP0 | apply kN0 | apply kD0 | apply kA0) | (right;simp;done)))
 have hn0 : Has W0 w.heap.size 46 (rcell rep0 none 0).toArray := by rw [<- hW0];exact Has.new _ _ _
 have h0 := h.quiet hk0
 have hb := h0.b
 obtain ⟨bb,hbb⟩ : ∃ bb,X.b = bb := ⟨_,rfl⟩
 rw [hbb] at hb ⊢
 obtain ⟨rb,hrb⟩ : ∃ rb,w.heap.size = rb := ⟨_,rfl⟩
 rw [hrb] at hn0
 have hne : bb ≠ rb := fun e => Has.ne hb hn0 (by decide) e
 have b15 : W0.cell? ⟨bb,15,none⟩ = some (.bool t.dn) := hb.cell 15
 have b16 : W0.cell? ⟨bb,16,none⟩ = some (.int .i64 t.r.req) := hb.cell 16
 have b17 : W0.cell? ⟨bb,17,none⟩ = some (.int .i64 t.r.e) := hb.cell 17
 have b18 : W0.cell? ⟨bb,18,none⟩ = some (.int .u64 t.r.at') := hb.cell 18
 have b19 : W0.cell? ⟨bb,19,none⟩ = some (.int .i64 t.r.pin) := hb.cell 19
 have b20 : W0.cell? ⟨bb,20,none⟩ = some (.slice X.rA t.r.ps.length X.rc) := hb.cell 20
 have f0 := hn0.frozen 0;have f1 := hn0.frozen 1;have f2 := hn0.frozen 2;have f3 := hn0.frozen 3;have f4 := hn0.frozen 4
 have y0 := hn0.cell 0;have y1 := hn0.cell 1;have y2 := hn0.cell 2;have y3 := hn0.cell 3;have y4 := hn0.cell 4
 simp [rcell,rep0] at y0 y1 y2 y3 y4
 have HN0 := hZ0 hn0;have HK0 := hZ0 hk0;have HH0 := hZ0 h0;have HRB := hZ0 (show w.heap.size <= rb by omega)
 unfold rcell rep0 at HN0
 dsimp only [List.length_nil] at HN0
 clear hn0 hk0 h0 hb h hbb
 cases hdn : t.dn with
 | false =>
  have hrep : repT t = rep0 := by unfold repT;rw [hdn];rfl
  rw [hdn] at b15
  rw [hrep]
  clear hdn b16 b17 b18 b19 b20 hrep
  go_enter Try.func20,Try.ntmps20
  go_wp2
  refine bodyPost_ret (results_row_tmp rfl _ _ rb _ rfl (load_rep (r := rep0) (A := none) (c := 0) (by unfold rcell rep0;dsimp only [List.length_nil];((repeat (first | with_reducible exact HN0.out | with_reducible apply Has.put_of | with_reducible apply Has.past | with_reducible apply Has.drewN | with_reducible apply Has.drew | with_reducible apply Has.alloc)) <;> first | omega | rfl)))) rfl ?_
  refine ⟨none,0,rfl,Src.nil _ _ _,?_⟩
  (repeat' (first | (with_reducible first | exact kR0 | apply kP0 | apply kN0 | apply kD0 | apply kA0) | (first | exact HK0.out | exact .inr HRB.out) | (right;simp;done)))
 | true =>
  have hrep : repT t = t.r := by unfold repT;rw [hdn];rfl
  rw [hdn] at b15
  rw [hrep]
  clear hdn hrep
  go_enter Try.func20,Try.ntmps20
  go_wp2
  have hkf : Kept (fun k => k = rb) W0 (((((W0.setCell ⟨rb,0,none⟩ (.int .i64 t.r.req)).setCell ⟨rb,1,none⟩ (.int .i64 t.r.e)).setCell ⟨rb,2,none⟩ (.int .u64 t.r.at')).setCell ⟨rb,3,none⟩ (.int .i64 t.r.pin)).setCell ⟨rb,4,none⟩ (.slice X.rA t.r.ps.length X.rc)) := by (repeat' (first | (with_reducible first | exact kR0 | apply kP0 | apply kN0 | apply kD0 | apply kA0) | (exact .inl rfl) | (right;simp;done)))
  refine bodyPost_ret (results_row_tmp rfl _ _ rb _ rfl (load_rep (r := t.r) (A := X.rA) (c := X.rc) (by unfold rcell;((repeat (first | with_reducible exact HN0.out | with_reducible apply Has.put_of | with_reducible apply Has.past | with_reducible apply Has.drewN | with_reducible apply Has.drew | with_reducible apply Has.alloc)) <;> first | omega | rfl)))) rfl ?_
  refine ⟨X.rA,X.rc,rfl,Src.of_own (own_kept HH0.out.r hkf (fun k hk e => own_ne HH0.out.r HN0.out (by decide) (e ▸ hk))),?_⟩
  exact HK0.out.trans hkf (fun i hi => .inr (by rw [hi];exact HRB.out))
theorem dtick_any (h : DAt w X t) (hok : TOk t) : Calls Try.prog 18 #[.pointer (some ⟨X.b,0,none⟩)] w (DPost w X t (.bool (tickT t).2) (tickT t).1) := by
 have hb := h.b
 have HH := hZ0 h
 have hwt := hok.wt
 unfold dcell at hb
 have HB := hZ0 hb
 cases hdn : t.dn with
 | true =>
  have hx : tickT t = (t,false) := by unfold tickT;rw [if_pos hdn]
  rw [hx]
  have b15 : w.cell? ⟨X.b,15,none⟩ = some (.bool true) := by rw [<- hdn];exact hb.cell 15
  clear hb h hx hok hwt hdn
  go_enter Try.func18,Try.ntmps18
  go_wp2
  go_ret
  exact DPost.same HH.out (Kept.refl _ _)
 | false =>
  obtain ⟨n,hn⟩ : ∃ n,min (t.waits + 1) 1073741824 = n := ⟨_,rfl⟩
  have hwr : IntKind.i64.wrap (t.waits + 1) = t.waits + 1 := IntWalk.i64_in _ (by omega)
  have hmn := run_min (t.waits + 1) 1073741824 n hn
  obtain ⟨bb,hbb⟩ : ∃ bb,X.b = bb := ⟨_,rfl⟩
  rw [hbb] at hb HB ⊢
  have b10 : w.cell? ⟨bb,10,none⟩ = some (.int .i64 t.ph) := hb.cell 10
  have b14 : w.cell? ⟨bb,14,none⟩ = some (.int .i64 t.waits) := hb.cell 14
  have f14 := hb.frozen 14
  have b15 : w.cell? ⟨bb,15,none⟩ = some (.bool false) := by rw [<- hdn];exact hb.cell 15
  obtain ⟨W1,hW1⟩ : ∃ W1,w.setCell ⟨bb,14,none⟩ (.int .i64 n) = W1 := ⟨_,rfl⟩
  have hb1 : Has W1 bb 62 (dcell X { t with waits := n }).toArray := by rw [<- hW1];exact HB.out.put_of rfl
  have hk1 : Kept (fun k => k = bb) w W1 := by rw [<- hW1];(repeat' (first | (with_reducible first | exact kR0 | apply kP0 | apply kN0 | apply kD0 | apply kA0) | (exact .inl rfl) | (right;simp;done)))
  have h1 : DAt W1 X { t with waits := n } := h.upd (by rw [hbb];exact hk1) (by rw [hbb];exact hb1) rfl rfl rfl rfl
  have d10 : W1.cell? ⟨bb,10,none⟩ = some (.int .i64 t.ph) := hb1.cell 10
  have d14 : W1.cell? ⟨bb,14,none⟩ = some (.int .i64 n) := hb1.cell 14
  have d15 : W1.cell? ⟨bb,15,none⟩ = some (.bool false) := by rw [<- hdn];exact hb1.cell 15
  have hend := dend_any h1 ⟨0,21,0,0,[]⟩ none 0 ⟨rfl,.inl ⟨rfl,rfl⟩⟩
  rw [hbb] at hend
  have hx : tickT t = if t.ph = 1 /\ 16 < n then (endT { t with waits := n } ⟨0,21,0,0,[]⟩,false) else ({ t with waits := n },true) := by unfold tickT;rw [if_neg (by rw [hdn];decide),hn]
  have HEND := hZ0 hend;have HH1 := hZ0 h1;have HK1 := hZ0 hk1;have HBB := hZ0 hbb
  by_cases h16 : t.ph = 1 /\ 16 < n
  ·rw [hx,if_pos h16]
   have hgt := h16.2
   have b1 : ((t.ph : Int) == 1) = true := by rw [h16.1];rfl
   clear hb h hx hok hwt hdn hb1 hk1 h1 hend hbb h16 HB hn
   go_enter Try.func18,Try.ntmps18
   go_wp2_with fail
   clear hW1 b10 b14 b15 d10 d14 d15 f14
   refine HEND.out.mono ?_
   rintro e w2 ⟨rfl,hp2,hk2⟩
   have y15 : w2.cell? ⟨bb,15,none⟩ = some (.bool true) := by have e9 := HBB.out;subst e9;exact hp2.b.cell 15
   have HP2 := hZ0 hp2;have HK2 := hZ0 hk2
   clear hp2 hk2
   go_wp2
   go_ret
   have e9 := HBB.out
   subst e9
   exact DPost.of_end (w1 := W1) (HK1.out.mono (fun k e => .inl e)) HP2.out HK2.out (fun k hk => by
    rcases hk with e | e | e | e
    ·exact .inl (.inl e)
    ·exact .inl (.inr (.inl e))
    ·exact .inl (.inr (.inr (.inl e)))
    ·exact absurd e (by simp [Value.ownBlock]))
  ·rw [hx,if_neg h16]
   by_cases h1p : t.ph = 1
   ·have hle : ¬ 16 < n := fun e => h16 ⟨h1p,e⟩
    have b1 : ((t.ph : Int) == 1) = true := by rw [h1p];rfl
    clear hb h hx hok hwt hdn hb1 hk1 h1 hend hbb h16 HB hn h1p
    go_enter Try.func18,Try.ntmps18
    go_wp2
    go_ret
    have e9 := HBB.out
    subst e9
    exact ⟨rfl,X,HH1.out,rfl,fun k hk => .inl hk,HK1.out.mono (fun k e => .inl e)⟩
   ·have b1 : ((t.ph : Int) == 1) = false := by rw [beq_eq_false_iff_ne];omega
    clear hb h hx hok hwt hdn hb1 hk1 h1 hend hbb h16 HB hn h1p
    go_enter Try.func18,Try.ntmps18
    go_wp2
    go_ret
    have e9 := HBB.out
    subst e9
    exact ⟨rfl,X,HH1.out,rfl,fun k hk => .inl hk,HK1.out.mono (fun k e => .inl e)⟩
end
end Ask
end Go.Proofs.Ytobfdolhgnoedaa

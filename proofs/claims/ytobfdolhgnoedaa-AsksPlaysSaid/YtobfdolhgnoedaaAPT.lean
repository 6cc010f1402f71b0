/- For every client, number, ask, and list of what happens to a task, AsksPlays returns true: each answer, and what is sent, is the document's. -/
import Derived.Test.YtobfdolhgnoedaaAP32
import Derived.Test.YtobfdolhgnoedaaRows
import Derived.ProofKit
import Derived.OpenShut
import Derived.JoinedOf
import Derived.KernelRfl
set_option linter.unusedSimpArgs false
set_option linter.unusedVariables false
set_option maxHeartbeats 32000000
set_option maxRecDepth 100000
namespace Go.Proofs.Ytobfdolhgnoedaa.asksPlays
open Go.ChangeShapes Go.WideShapes Go.ChangeAt Go.RowKit
open Go.ChangeMaps (open_string shut_string)
set_option maxRecDepth 100000 in
theorem contract (H : Type) (enc : TypeId × Value -> H) (W : World) (base : Nat) (args : Array Value) (ds gs : List (DataW H)) (before : List MemPlace)
  (hval : ∀ (j : Nat) t v,Try.f4.params[j]? = some t -> args[j]? = some v -> Value.okWide Try.prog W .any base t v)
  (hW : DataW.Whole enc Try.prog Try.f4.params.toList Rows.asksPlaysSpec.vars false W args.toList ds gs before) :
  Calls Try.prog 4 args W fun e W' => ∃ v,e = .returned v /\ Rows.asksPlaysSpec.post enc Try.prog Try.f4 false true false false W args v W' := by
 have hW' := hW
 obtain ⟨p,q,hA0,hV,rfl,hfz,hnd⟩ := hW
 have hA : DataW.TrodAll enc Try.prog W 0 (fun _ => true) true Try.f4.params.toList args.toList ds p := hA0
 rw [Try.params4] at hA hval
 obtain ⟨v0,vs0,d0,ds0,p0,q0,hargs,rfl,rfl,h0,r0⟩ := trodAll_cons hA
 obtain ⟨v1,vs1,d1,ds1,p1,q1,rfl,rfl,rfl,h1,r1⟩ := trodAll_cons r0
 obtain ⟨v2,vs2,d2,ds2,p2,q2,rfl,rfl,rfl,h2,r2⟩ := trodAll_cons r1
 obtain ⟨v3,vs3,d3,ds3,p3,q3,rfl,rfl,rfl,h3,r3⟩ := trodAll_cons r2
 obtain ⟨rfl,rfl,rfl⟩ := trodAll_nil r3
 obtain rfl : args = #[v0,v1,v2,v3] := by cases args;simp_all
 obtain ⟨rfl,rfl⟩ := trodVars_none hV
 have hlt : ∀ x : MemPlace,x ∈ _ -> x.block < W.heap.size := fun x hx => hW'.lt x hx
 have g0 := h0
 have g1 := h1
 have g2 := h2
 have g3 := h3
 obtain ⟨a0,rfl,rfl,rfl,w0⟩ := open_int Try.underlying3 (hval 0 3 v0 rfl rfl) h0
 obtain ⟨a1,rfl,rfl,rfl,w1⟩ := open_int Try.underlying3 (hval 1 3 v1 rfl rfl) h1
 obtain ⟨x2,rfl,hg2⟩ := Ask.open_ask (hval 2 37 v2 rfl rfl) h2
 obtain ⟨A3,c3,l3,rfl,hlc3,hcm3,hs3,hg3⟩ := Ask.open_acts (hval 3 40 v3 rfl rfl) h3
 clear hA0
 refine (Ask.law_playsA W a0 a1 x2 hg2 A3 c3 l3 hs3 hg3 hlc3 hcm3).mono fun e W' ⟨he,hb⟩ => ?_
 subst he
 exact ⟨_,rfl,post_below (pv := []) hW' (fun _ _ _ => trodAll_cons_mk (shut_bool Try.underlying4 _) trodAll_mk0)
  (fun sp hsp => (trodAll_cons_mk (arg_stays (by kernel_rfl) (by kernel_rfl) g0 hb hlt (fun x hx => hsp x hx) (fun x hx => by first | (simp at hx;done) | simp [hx])) (trodAll_cons_mk (arg_stays (by kernel_rfl) (by kernel_rfl) g1 hb hlt (fun x hx => hsp x hx) (fun x hx => by first | (simp at hx;done) | simp [hx])) (trodAll_cons_mk (arg_stays (by kernel_rfl) (by kernel_rfl) g2 hb hlt (fun x hx => hsp x hx) (fun x hx => by first | (simp at hx;done) | simp [hx])) (trodAll_cons_mk (arg_stays (by kernel_rfl) (by kernel_rfl) g3 hb hlt (fun x hx => hsp x hx) (fun x hx => by first | (simp at hx;done) | simp [hx])) trodAll_mk0))))) (fun _ _ => rfl) (by simp)
  hb (ok_one (by kernel_rfl) rfl (okWide_bool_mk Try.underlying4 _))⟩
set_option maxRecDepth 100000 in
theorem lifted (os : Os) (started : os.Started) (H : Type) (enc : TypeId × Value -> H) :
  ReturnsInHanded {} Try.checked os 4 .any (Rows.asksPlaysSpec.pre6 enc Try.prog Try.f4 Rows.asksPlaysRow.domain false) (Rows.asksPlaysSpec.post enc Try.prog Try.f4 false true false false) := by
 refine returnsInHanded_of_change (C := Try.checked) own started (by kernel_rfl) Try.func4
  (ChangeSpec.witness6 (enc := enc) (C := Try.checked) false ⟨#[],#[.int .i64 0,.int .i64 0,.agg #[.int .i64 0,.int .i64 0,.string .empty,.string .empty,.int .u64 0,.int .i64 0,.slice none 0 0],.slice none 0 0],[]⟩ 8 (by kernel_rfl) (by kernel_rfl) (by kernel_rfl) (by kernel_rfl)) ?_
 intro W base args ds gs before hval hW _ _
 exact contract H enc W base args ds gs before hval hW
set_option maxRecDepth 100000 in
theorem proved : Rows.AsksPlaysSaid :=
 OpenClaim.holds_of_wide 4 Try.f4 rfl rfl rfl rfl rfl rfl rfl ⟨rfl,rfl,rfl,rfl,rfl⟩ rfl rfl rfl rfl rfl (by kernel_rfl) Try.func4 (by kernel_rfl)
  (of_decide_eq_true (by kernel_rfl)) (by unfold Func.isWrapper;first | (rw [if_pos (by decide +kernel)];kernel_rfl) | (rw [if_neg (by decide +kernel)];exact ⟨rfl,rfl⟩))
  (fun os started H enc _ => lifted os started H enc)
end Go.Proofs.Ytobfdolhgnoedaa.asksPlays

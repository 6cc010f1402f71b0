/- For every list of steps, all runs of bytes that are noise and all places for them ScriptNoise returns true: bytes with noise between whole pieces are the same steps. The condition: the arguments' bulk is at most 1048576. -/
import Derived.Test.YtfobbocaodppeaaScr19
set_option linter.unusedSimpArgs false
set_option linter.unusedVariables false
namespace Go.Proofs.Ytfobbocaodppeaa.Scr
theorem sum_mem {α : Type} (f : α → Nat) (l : List α) (a : α) (h : a ∈ l) : f a ≤ (l.map f).sum := by
  induction l with
  | nil => cases h
  | cons b l ih =>
    rw [List.map_cons, List.sum_cons]
    rcases List.mem_cons.1 h with rfl | h
    · omega
    · have := ih h; omega
section
open Go.WideShapes Go.ChangeShapes Go.RowKit
variable {H : Type} {enc : TypeId × Value → H} {W : World} {v : Value} {d : DataW H} {ps : List MemPlace}
theorem open_strs_wt (hv : ∃ A n c, v = .slice A n c) (h : DataW.Trod enc Try.prog W 0 (fun _ => true) true 33 v d ps) :
    ∃ (A : Option Addr) (c : Nat) (l : List ByteArray), v = .slice A l.length c ∧ l.length ≤ c ∧ c ≤ maxLen ∧ Src W 1 A l.length (l.map Value.string) ∧ (l.map fun q => q.size).sum ≤ Rows.uptoBulk d := by
  obtain ⟨A, c, l, h1, h2, h3, h4, _, _, h6⟩ := open_rows_wt (α := ByteArray) (fun a => [Value.string a]) (fun _ => True) (fun q => q.size) 1 Try.underlying33 (by kernel_rfl) (by decide) (fun _ => rfl)
    (fun fuel cs y hy => by
      obtain ⟨x, hx, hd, hm⟩ := DataW.trod_string Try.underlying9 hy
      refine ⟨x, hx, trivial, ?_⟩
      rw [hd]
      simp [Rows.uptoBulk]) h hv
  rw [flat_one] at h4
  exact ⟨A, c, l, h1, h2, h3, h4, h6⟩
theorem open_u8s (hv : ∃ A n c, v = .slice A n c) (h : DataW.Trod enc Try.prog W 0 (fun _ => true) true 34 v d ps) :
    ∃ (A : Option Addr) (c : Nat) (l : List Int), v = .slice A l.length c ∧ l.length ≤ c ∧ c ≤ maxLen ∧ Src W 1 A l.length (l.map (Value.int .u8)) ∧ (∀ t ∈ l, 0 ≤ t ∧ t ≤ 255) ∧ l.length ≤ Rows.uptoBulk d := by
  obtain ⟨A, c, l, h1, h2, h3, h4, h5, _, h6⟩ := open_rows_wt (α := Int) (fun x => [Value.int .u8 x]) (fun x => 0 ≤ x ∧ x ≤ 255) (fun _ => 1) 1 Try.underlying34 (by kernel_rfl) (by decide) (fun _ => rfl)
    (fun fuel cs y hy => by
      obtain ⟨x, hx, hd, hw⟩ := DataW.trod_int Try.underlying5 hy
      refine ⟨x, hx, ?_, by rw [hd]; simp [Rows.uptoBulk]⟩
      simpa [Lit.wf, IntKind.min, IntKind.max, IntKind.signed, IntKind.bits] using hw) h hv
  rw [flat_one] at h4
  exact ⟨A, c, l, h1, h2, h3, h4, h5, by rw [List.map_const', List.sum_replicate_nat] at h6; simpa using h6⟩
end
end Go.Proofs.Ytfobbocaodppeaa.Scr

namespace Go.Proofs.Ytfobbocaodppeaa.scriptNoiseUpto
open Go.ChangeShapes Go.WideShapes Go.ChangeAt Go.RowKit
open Go.ChangeMaps (open_string shut_string)
set_option maxRecDepth 100000 in
theorem contract (H : Type) (enc : TypeId × Value → H) (W : World) (base : Nat) (args : Array Value) (ds gs : List (DataW H)) (before : List MemPlace)
    (hval : ∀ (j : Nat) t v, Try.f4.params[j]? = some t → args[j]? = some v → Value.okWide Try.prog W .any base t v)
    (hW : DataW.Whole enc Try.prog Try.f4.params.toList Rows.scriptNoiseSpec.vars false W args.toList ds gs before) (hk : Rows.uptoSmall H (ds ++ gs) = true) :
    Calls Try.prog 4 args W fun e W' => ∃ v, e = .returned v ∧ Rows.scriptNoiseSpec.post enc Try.prog Try.f4 false true false false W args v W' := by
  have hW' := hW
  obtain ⟨p, q, hA0, hV, rfl, hfz, hnd⟩ := hW
  have hA : DataW.TrodAll enc Try.prog W 0 (fun _ => true) true Try.f4.params.toList args.toList ds p := hA0
  rw [Try.params4] at hA hval
  obtain ⟨v0, vs0, d0, ds0, p0, q0, hargs, rfl, rfl, h0, r0⟩ := trodAll_cons hA
  obtain ⟨v1, vs1, d1, ds1, p1, q1, rfl, rfl, rfl, h1, r1⟩ := trodAll_cons r0
  obtain ⟨v2, vs2, d2, ds2, p2, q2, rfl, rfl, rfl, h2, r2⟩ := trodAll_cons r1
  obtain ⟨rfl, rfl, rfl⟩ := trodAll_nil r2
  obtain rfl : args = #[v0, v1, v2] := by cases args; simp_all
  obtain ⟨rfl, rfl⟩ := trodVars_none hV
  have hlt : ∀ x : MemPlace, x ∈ _ → x.block < W.heap.size := fun x hx => hW'.lt x hx
  have g0 := h0
  have g1 := h1
  have g2 := h2
  obtain ⟨A0, c0, l0, rfl, hlc0, hcm0, hs0, hk0, hb0⟩ := open_evs (hval 0 22 v0 rfl rfl) h0
  obtain ⟨A1, c1, l1, rfl, hlc1, hcm1, hs1, hb1⟩ := Scr.open_strs_wt (okWide_slice Try.underlying33 (hval 1 33 v1 rfl rfl)) h1
  obtain ⟨A2, c2, l2, rfl, hlc2, hcm2, hs2, hg2, hb2⟩ := Scr.open_u8s (okWide_slice Try.underlying34 (hval 2 34 v2 rfl rfl)) h2
  clear hA0
  have hk1 := bulk_le hk
  have hk2 : Rows.uptoBulk d0 ≤ 1048576 := by
    simp only [List.cons_append, List.nil_append, bulk_cons] at hk1
    omega
  have hk3 : Rows.uptoBulk d1 ≤ 1048576 := by
    simp only [List.cons_append, List.nil_append, bulk_cons] at hk1
    omega
  have hk4 : Rows.uptoBulk d2 ≤ 1048576 := by
    simp only [List.cons_append, List.nil_append, bulk_cons] at hk1
    omega
  have hns : ∀ q ∈ l1, q.size ≤ 1048576 := fun q hq => Nat.le_trans (Scr.sum_mem (fun q : ByteArray => q.size) l1 q hq) (Nat.le_trans hb1 hk3)
  have hwt : ∀ e ∈ l0, Scr.wtE e.x ≤ 1048576 := fun e he => Nat.le_trans (Scr.sum_mem (fun e : Scr.EvR => Scr.wtE e.x) l0 e he) (Nat.le_trans hb0 hk2)
  refine (Scr.law_noise W A0 c0 l0 hs0 hlc0 hk0 hwt A1 c1 l1 hs1 hns A2 c2 l2 hs2 hg2 (by omega)).mono fun e W' ⟨he, hb⟩ => ?_
  subst he
  exact ⟨_, rfl, post_below (pv := []) hW' (fun _ _ _ => trodAll_cons_mk (shut_bool Try.underlying4 _) trodAll_mk0)
    (fun sp hsp => (trodAll_cons_mk (arg_stays (by kernel_rfl) (by kernel_rfl) g0 hb hlt (fun x hx => hsp x hx) (fun x hx => by first | (simp at hx; done) | simp [hx])) (trodAll_cons_mk (arg_stays (by kernel_rfl) (by kernel_rfl) g1 hb hlt (fun x hx => hsp x hx) (fun x hx => by first | (simp at hx; done) | simp [hx])) (trodAll_cons_mk (arg_stays (by kernel_rfl) (by kernel_rfl) g2 hb hlt (fun x hx => hsp x hx) (fun x hx => by first | (simp at hx; done) | simp [hx])) trodAll_mk0)))) (fun _ _ => rfl) (by simp)
    hb (ok_one (by kernel_rfl) rfl (okWide_bool_mk Try.underlying4 _))⟩

set_option maxRecDepth 100000 in
theorem lifted (os : Os) (started : os.Started) (H : Type) (enc : TypeId × Value → H) (F : Stop.Interp) :
    ReturnsInHanded {} Try.checked os 4 .any ((Rows.OpenSpec.upto Rows.scriptNoiseSpec).pre6 enc Try.prog Try.f4 Rows.scriptNoiseUptoRow.domain false) (((Rows.OpenSpec.upto Rows.scriptNoiseSpec).at F).post enc Try.prog Try.f4 false true false false) := by
  refine returnsInHanded_of_cond (C := Try.checked) (s := Rows.OpenSpec.upto Rows.scriptNoiseSpec) (k := Rows.uptoSmall) rfl own started (by kernel_rfl) Try.func4
    (OpenSpec.witness (enc := enc) (C := Try.checked) (s := Rows.OpenSpec.upto Rows.scriptNoiseSpec) (k := Rows.uptoSmall) rfl false ⟨#[], #[.slice none 0 0, .slice none 0 0, .slice none 0 0], []⟩ 8 (by kernel_rfl) (by kernel_rfl) (by kernel_rfl)
      (x := ([.nil, .nil, .nil], [], [])) (by kernel_rfl) rfl (by kernel_rfl)) ?_
  intro W base args ds gs before hval hW _ hk _
  exact contract H enc W base args ds gs before hval hW hk

set_option maxRecDepth 100000 in
theorem proved : Rows.ScriptNoiseUptoSaid :=
  OpenClaim.holds_of_cond 4 Try.f4 rfl rfl rfl rfl rfl rfl rfl ⟨rfl, rfl, rfl, rfl, rfl⟩ rfl rfl rfl rfl rfl (by kernel_rfl) Try.func4 (by kernel_rfl)
    (of_decide_eq_true (by kernel_rfl)) (by unfold Func.isWrapper; first | (rw [if_pos (by decide +kernel)]; kernel_rfl) | (rw [if_neg (by decide +kernel)]; exact ⟨rfl, rfl⟩))
    (fun os started H enc _ F => lifted os started H enc F)
#print axioms proved
end Go.Proofs.Ytfobbocaodppeaa.scriptNoiseUpto


/- The checkpointed log, plain: what Open finds where another log's bytes lie behind. -/
import Derived.Test.YthgdkhgpboaplaaPt18
set_option linter.unusedSimpArgs false
set_option linter.unusedVariables false
namespace Go.Proofs.Ythgdkhgpboaplaa
open Go.RowKit
set_option maxRecDepth 100000
namespace Pt
open Disk Fr Vn Ops Wl
def bAt (fs : List FileT) (i : Nat) : List UInt8 := (fs[i]?.map byF).getD []
def nAt (fs : List FileT) (cut i : Nat) : Nat := min (leftAt fs cut i) (bAt fs i).length
/-- The pieces that are copied ahead of file i. -/
def psN (fs : List FileT) (cut : Nat) (next : Int) : Nat → List Disk.Pc
  | 0 => []
  | i + 1 => psN fs cut next i ++ if 0 < nAt fs cut i then [(next + i, ofL ((bAt fs i).take (nAt fs cut i)))] else []
theorem sync_append (ps qs : List Disk.Pc) : ∀ m : Disk.Safe, syncM m (ps ++ qs) = syncM (syncM m ps) qs := by
  induction ps with
  | nil => intro m; rfl
  | cons p ps ih => intro m; show syncM _ (ps ++ qs) = syncM (syncM _ ps) qs; exact ih _
theorem psN_sync {fs C : List FileT} {cut : Nat} {next : Int} {m : Disk.Safe} (hC : ∀ i : Nat, (if 0 < nAt fs cut i then some ((bAt fs i).take (nAt fs cut i)) else none) = C[i]?.map byF) (hm : ∀ j : Nat, m (next + j) = none) :
    ∀ N : Nat, (∀ j : Nat, syncM m (psN fs cut next N) (next + j) = if j < N then C[j]?.map (fun f => ofL (byF f)) else none) ∧ ∀ x, x < next → syncM m (psN fs cut next N) x = m x
  | 0 => ⟨fun j => by rw [if_neg (by omega)]; exact hm j, fun x _ => rfl⟩
  | N + 1 => by
    obtain ⟨h1, h2⟩ := psN_sync hC hm N
    have hcn := hC N
    have e : ∀ x, syncM m (psN fs cut next (N + 1)) x = if 0 < nAt fs cut N ∧ x = next + N then some (ofL ((bAt fs N).take (nAt fs cut N))) else syncM m (psN fs cut next N) x := by
      intro x
      show syncM m (psN fs cut next N ++ _) x = _
      rw [sync_append]
      by_cases hn : 0 < nAt fs cut N
      · rw [if_pos hn]
        show sput _ (next + N) (sget _ (next + N) ++ _) x = _
        unfold sput
        by_cases hx : x = next + N
        · rw [if_pos hx, if_pos ⟨hn, hx⟩]
          unfold sget
          rw [h1 N, if_neg (by omega)]
          congr 1
        · rw [if_neg hx, if_neg (fun h => hx h.2)]
      · rw [if_neg hn, if_neg (fun h => hn h.1)]
        rfl
    refine ⟨fun j => ?_, fun x hx => ?_⟩
    · rw [e]
      by_cases hj : j = N
      · subst hj
        rw [if_pos (show j < j + 1 by omega)]
        by_cases hn : 0 < nAt fs cut j
        · rw [if_pos ⟨hn, rfl⟩]
          rw [if_pos hn] at hcn
          cases hc : C[j]? with
          | none => rw [hc] at hcn; cases hcn
          | some f =>
            rw [hc] at hcn
            simp only [Option.map_some, Option.some.injEq] at hcn
            simp [hcn]
        · rw [if_neg (fun h => hn h.1), h1 j, if_neg (by omega)]
          rw [if_neg hn] at hcn
          cases hc : C[j]? with
          | none => rfl
          | some f => rw [hc] at hcn; cases hcn
      · rw [if_neg (fun h => hj (by omega)), h1 j]
        by_cases hjN : j < N
        · rw [if_pos hjN, if_pos (by omega)]
        · rw [if_neg hjN, if_neg (by omega)]
    · rw [e, if_neg (fun h => by omega)]
      exact h2 x hx
theorem mis_cat {a : Int} {R : St} {C : List FileT} {m M : Disk.Safe} (h : MIs a R m) (h1 : ∀ j : Nat, M (a + R.length + j) = C[j]?.map (fun f => ofL (byF f))) (h2 : ∀ x, x < a + R.length → M x = m x) : MIs a (C.reverse ++ R) M ∧ MIs (a + R.length) C.reverse M := by
  refine ⟨fun i => ?_, fun i => ?_⟩
  · rw [fileAt_asc, List.reverse_append, List.reverse_reverse]
    by_cases hi : i < R.length
    · rw [h2 _ (by omega), h i, fileAt_asc, List.getElem?_append_left (by simpa using hi)]
    · have := h1 (i - R.length)
      rw [show a + (R.length : Int) + ((i - R.length : Nat) : Int) = a + i by omega] at this
      rw [this, List.getElem?_append_right (by simp; omega)]
      simp
  · rw [h1 i, fileAt_asc, List.reverse_reverse]
theorem ptx_take2 (k : Nat) (l : List ByteArray) (M : Nat) : (ptx k l).take (M + 1) = ptx k (l.take M) := by
  unfold ptx
  rw [List.take_succ_cons, List.map_take]
/-- What must be known for Open. -/
structure Found (M : Disk.Safe) (a : Int) (N : Nat) (L : List ByteArray) (i0 K want : Nat) (R : St) : Prop where
  lt : i0 < N
  pass : ∀ i : Nat, i0 < i → i < N → Passed M (a + i)
  beg : beg (dat M (a + i0)) = some want
  fin : EndAt M (a + i0) K
  kb : K ≤ 100000
  txt : txt M (a + i0) K = L.map bl
  want : want ≤ L.length
  log : Log (a + i0) R [] (keepM (a + i0) (a + i0 + 1 + K) M) []
  rb : R.length ≤ 100000
theorem torn {a : Int} {R : St} {fs C : List FileT} {cut k : Nat} {m M : Disk.Safe} {l mm : List ByteArray} (hlog : Log a R [] m []) (hd : Hd R) (ht : texts R = ptx k l) (hk : k ≤ l.length) (hkb : l.length ≤ 1000000) (hR : R.length ≤ 1000)
    (hfd : Hd fs.reverse) (hft : (fs.map (·.ts)).flatten = ptx mm.length mm) (hmb : mm.length ≤ 1000000) (hfl : fs.length ≤ 1000)
    (c1 : ∀ f ∈ C, OkF f) (c3 : C.length ≤ fs.length) (c4 : ∃ n, (C.map (·.ts)).flatten = (fs.map (·.ts)).flatten.take n ∧ (cut < total fs → n < (fs.map (·.ts)).flatten.length)) (c6 : total fs ≤ cut → C = fs)
    (c7 : C ≠ [] → (C.map (·.ts)).flatten ≠ [] → ∃ f r, C = f :: r ∧ f.ts ≠ [])
    (h1 : ∀ j : Nat, M (a + R.length + j) = C[j]?.map (fun f => ofL (byF f))) (h2 : ∀ x, x < a + R.length → M x = m x) :
    ∃ i0 K want R', Found M a (R.length + C.length) (if total fs ≤ cut then mm else l) i0 K want R' := by
  obtain ⟨hm1, hm2⟩ := mis_cat hlog.safe h1 h2
  have hokC : Ok C.reverse := fun f hf => c1 f (by simpa using hf)
  have hokA : Ok (C.reverse ++ R) := fun f hf => by
    rcases List.mem_append.1 hf with hf | hf
    · exact hokC f hf
    · exact hlog.ok f hf
  have lA : Log a (C.reverse ++ R) [] M [] := ⟨hm1, rfl, hokA, fun t ht => by cases ht⟩
  have lC : Log (a + R.length) C.reverse [] M [] := ⟨hm2, rfl, hokC, fun t ht => by cases ht⟩
  have hRl := hd.len
  have htC : texts C.reverse = (C.map (·.ts)).flatten := by rw [texts_asc, List.reverse_reverse]
  obtain ⟨n, c4, c5⟩ := c4
  by_cases hall : total fs ≤ cut
  · -- all of the other log is there
    rw [if_pos hall]
    have hCf := c6 hall
    subst hCf
    have htx : texts C.reverse = ptx mm.length mm := by rw [htC]; exact hft
    obtain ⟨f1, f2, f3, f4⟩ := found lC hfd htx (by omega)
    have e0 : a + (R.length : Int) + ((0 : Nat) : Int) = a + (R.length : Int) := by omega
    rw [e0] at f2 f3 f4
    have hCl := hfd.len
    refine ⟨R.length, C.reverse.length - 1, mm.length, C.reverse, by simp at hCl; omega, fun i hi hl => ?_, f2, f3, by simp; omega, f4, Nat.le_refl _, log_kept lC (by omega), by simp; omega⟩
    have := f1 (i - R.length) (by omega) (by simp; omega)
    rw [show a + (R.length : Int) + ((i - R.length : Nat) : Int) = a + i by omega] at this
    exact this
  · rw [if_neg hall]
    by_cases hC0 : (C.map (·.ts)).flatten = []
    · -- no whole text of the other log
      have htA : texts (C.reverse ++ R) = ptx k l := by
        have : ∀ (X Y : St), texts (X ++ Y) = texts Y ++ texts X := by
          intro X Y
          induction X with
          | nil => simp [texts]
          | cons x X ih => show texts (X ++ Y) ++ x.ts = texts Y ++ (texts X ++ x.ts); rw [ih, List.append_assoc]
        rw [this, htC, hC0, List.append_nil, ht]
      have hdA : Hd (C.reverse ++ R) := by
        have : ∀ X : St, Hd (X ++ R) := by
          intro X
          induction X with
          | nil => exact hd
          | cons x X ih => exact ih.cons
        exact this _
      obtain ⟨f1, f2, f3, f4⟩ := found lA hdA htA (by omega)
      have e0 : a + ((0 : Nat) : Int) = a := by omega
      have hlen : (C.reverse ++ R).length = R.length + C.length := by simp; omega
      refine ⟨0, (C.reverse ++ R).length - 1, k, C.reverse ++ R, by omega, fun i hi hl => f1 i hi (by omega), f2, f3, by omega, f4, hk, ?_, by omega⟩
      rw [e0]
      exact log_kept lA (by omega)
    · -- the other log's first text is whole, the last is not
      have hCne : C ≠ [] := fun h => hC0 (by rw [h]; rfl)
      obtain ⟨f, r, hCr, hfne⟩ := c7 hCne hC0
      have hdC : Hd C.reverse := hd_asc (by rw [List.reverse_reverse]; exact hCr) hfne
      have hn := c5 (by omega)
      rw [hft, ptx_len] at hn
      rw [hft] at c4
      obtain ⟨j, hj⟩ : ∃ j, n = j + 1 := by
        cases n with
        | zero => rw [List.take_zero] at c4; exact absurd c4 hC0
        | succ j => exact ⟨j, rfl⟩
      rw [hj, ptx_take2] at c4
      have hjl : (mm.take j).length < mm.length := by rw [List.length_take]; omega
      obtain ⟨f1, f2, f3, f4⟩ := found lC hdC (htC.trans c4) (by omega)
      have hCl := hdC.len
      rw [List.length_reverse] at hCl f1
      have hKeep : Log a R [] (keepM a (a + R.length) M) [] := ⟨fun i => by
        unfold keepM
        by_cases hi : i < R.length
        · rw [if_pos (by omega), h2 _ (by omega)]
          exact hlog.safe i
        · rw [if_neg (by omega)]
          unfold fileAt
          rw [if_neg hi], rfl, hlog.ok, fun t ht => by cases ht⟩
      have hdat : ∀ i : Nat, i < R.length → dat M (a + i) = bts R i := by
        intro i hi
        have := Log.dat lA i
        rw [this, bts_asc, bts_asc, List.reverse_append, List.reverse_reverse, List.getElem?_append_left (by simpa using hi)]
      have hisf : ∀ i : Nat, i < R.length + C.length → isFile M [] (a + i) = true := by
        intro i hi
        rw [Log.isf lA]
        simp
        omega
      obtain ⟨g1, r0, g2⟩ := files_rest hd (p := 80 :: put k) (rest := l.map fun s => 84 :: bl s) ht
      have hno : ∀ i : Nat, 0 < i → i < R.length → beg (dat M (a + i)) = none := by
        intro i hi hl
        rw [hdat i hl, (ok_at hlog.ok hl).2]
        rcases hts : tsAt R i with _ | ⟨t, r⟩
        · rfl
        · have := g1 i hi t (by rw [hts]; simp)
          rw [List.mem_map] at this
          obtain ⟨s, _, rfl⟩ := this
          exact cnt_text _
      have e0 : a + ((0 : Nat) : Int) = a := by omega
      have e1 : a + (R.length : Int) + ((0 : Nat) : Int) = a + (R.length : Int) := by omega
      rw [e1] at f2 f3 f4
      refine ⟨0, R.length - 1, k, R, by omega, fun i hi hl => ?_, ?_, ⟨fun j hj => ?_, .inr ⟨mm.length, ?_⟩⟩, by omega, ?_, hk, ?_, by omega⟩
      · by_cases hiR : i < R.length
        · exact .inl (hno i hi hiR)
        · by_cases hie : i = R.length
          · subst hie
            refine .inr ⟨mm.length, C.length - 1, f2, by rw [List.length_reverse] at f3; exact f3, by omega, ?_⟩
            rw [List.length_reverse] at f4
            rw [f4, List.length_map]
            omega
          · have := f1 (i - R.length) (by omega) (by omega)
            rw [show a + (R.length : Int) + ((i - R.length : Nat) : Int) = a + i by omega] at this
            exact this
      · rw [hdat 0 hRl, (ok_at hlog.ok hRl).2, g2]
        exact cnt_put (by omega)
      · have e : a + ((0 : Nat) : Int) + 1 + (j : Int) = a + ((j + 1 : Nat) : Int) := by omega
        rw [e]
        exact ⟨hisf _ (by omega), hno (j + 1) (by omega) (by omega)⟩
      · have e : a + ((0 : Nat) : Int) + 1 + ((R.length - 1 : Nat) : Int) = a + (R.length : Int) := by omega
        rw [e]
        exact f2
      · unfold txt
        rw [rdT_congr (d' := bts R) (fun j hj => by rw [show a + ((0 : Nat) : Int) + (j : Int) = a + (j : Int) by omega]; exact hdat j (by omega)), show R.length - 1 + 1 = R.length by omega, rd_all hlog.ok hd, ht]
        show tt (l.map fun s => 84 :: bl s) = _
        exact tt_texts l
      · rw [e0, show a + 1 + ((R.length - 1 : Nat) : Int) = a + (R.length : Int) by omega]
        exact hKeep
end Pt
end Go.Proofs.Ythgdkhgpboaplaa

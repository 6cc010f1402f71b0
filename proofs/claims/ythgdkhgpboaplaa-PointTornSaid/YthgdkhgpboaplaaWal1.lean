
/- wal.segments: a log's files, one by one. -/
import Derived.Test.YthgdkhgpboaplaaFr4
import Derived.Test.YthgdkhgpboaplaaDiskFiles
import Derived.Test.YthgdkhgpboaplaaSlI
import Derived.Test.YthgdkhgpboaplaaDiskAwake
set_option linter.unusedSimpArgs false
set_option linter.unusedVariables false
namespace Go.Proofs.Ythgdkhgpboaplaa
open Go.RowKit Go.Shelf
attribute [local go_sem] Oper.semAt_some
set_option maxRecDepth 100000
namespace Wl
open Disk
/-- A log's files: from n on, as long as they are there. -/
def segsF (p : Int → Bool) (d : Int → ByteArray) : Nat → Int → List (Int × ByteArray)
  | 0, _ => []
  | k + 1, n => if p n then (n, d n) :: segsF p d k (n + 1) else []
/-- What a round leaves as it is: the blocks of FF, and every row of ints but those of E. -/
structure KS (FF E : Nat → Prop) (A B : World) : Prop where
  size : A.heap.size ≤ B.heap.size
  block : ∀ k, FF k → B.heap[k]? = A.heap[k]?
  ints : ∀ k cs, ¬ E k → Has A k 3 cs → Has B k 3 cs
section
variable {FF E F : Nat → Prop} {A B C w w' : World} {g n : Nat} {m : Disk.Safe} {ps : List Disk.Pc} {ser boot : Int}
theorem KS.refl : KS FF E A A := ⟨Nat.le_refl _, fun _ _ => rfl, fun _ _ _ h => h⟩
theorem KS.trans (h : KS FF E A B) (k : KS FF E B C) : KS FF E A C := ⟨Nat.le_trans h.size k.size, fun i hi => (k.block i hi).trans (h.block i hi), fun i cs hi hc => k.ints i cs hi (h.ints i cs hi hc)⟩
theorem KS.of_kept (h : Kept NoF A B) (hF : ∀ k, FF k → k < A.heap.size) : KS FF E A B := ⟨h.size, fun k hk => h.block k (hF k hk) (fun z => z), fun k cs _ hc => hc.kept h (fun z => z)⟩
theorem KS.put (hF : ∀ k, FF k → k < w.heap.size) (W : World) (l : Nat) (o o' : Obj) (h : w.heap.size ≤ l) (hl : W.heap[l]? = some o) (hc : o.isCells = false) (_ : o.isWalk = false) : KS FF E W (W.putObj l o') :=
  ⟨Nat.le_of_eq (by simp [World.putObj]), fun k hk => World.putObj_heap_other (by have := hF k hk; omega), fun k cs _ hh => by
    have hne : k ≠ l := by
      rintro rfl
      unfold Has at hh
      rw [hl] at hh
      cases hh
      cases hc
    unfold Has at hh ⊢
    rw [World.putObj_heap_other hne]
    exact hh⟩
theorem own_same {base size n : Nat} {e : TypeId} {v : Value} {xs : List Value} (h : w.ownsRow base e size v n xs) (hb : ∀ g, v.ownBlock = some g → w'.heap[g]? = w.heap[g]?) : w'.ownsRow base e size v n xs := by
  refine ⟨h.1, ?_⟩
  rcases h.2 with h2 | ⟨g, cap, cur, rfl, hg, hh, r⟩
  · exact .inl h2
  · exact .inr ⟨g, cap, cur, rfl, hg, (hb g rfl).trans hh, r⟩
theorem DiskAt.same (h : DiskAt w g F n m ps ser boot) (hb : ∀ k, F k → w'.heap[k]? = w.heap[k]?) : DiskAt w' g F n m ps ser boot := by
  obtain ⟨mb, A, c, hF, hg, hm, ho⟩ := h
  refine ⟨mb, A, c, hF, (hb _ ((hF _).2 (.inl rfl))).trans hg, ?_, own_same ho fun k hk => hb k ((hF k).2 (.inr (.inr hk)))⟩
  obtain ⟨D, ⟨es, clock, hbk, hFF, hs, e⟩, hD⟩ := hm
  exact ⟨D, ⟨es, clock, (hb mb ((hF _).2 (.inr (.inl rfl)))).trans hbk, hFF, hs, e⟩, hD⟩
theorem own_type {base size n : Nat} {e : TypeId} {v : Value} {xs : List Value} (h : w.ownsRow base e size v n xs) {g : Nat} (hg : v.ownBlock = some g) : ∃ cs, Has w g e cs := Fr.own_has h hg
end
theorem segsF_no {p : Int → Bool} {d : Int → ByteArray} {x : Int} (h : p x = false) : ∀ j, segsF p d j x = []
  | 0 => rfl
  | j + 1 => by unfold segsF; rw [h]; rfl
set_option maxHeartbeats 4000000 in
/-- The iterator's body. FL: the file's numbers; the log ends at first + K. -/
theorem seg_in (n : Nat) (hn : 1 ≤ n) (l Bd Bf g nn : Nat) (F E : Nat → Prop) (m : Disk.Safe) (ps : List Disk.Pc) (ser boot first : Int) (K : Nat) (J Jx : List (Int × ByteArray) → World → Prop) (W : World)
    (hd : DiskAt W g F nn m ps ser boot) (hBd : Has W Bd 30 #[.pointer (some ⟨g, 0, none⟩)]) (hBf : Has W Bf 3 #[.int .i64 first])
    (hE : ∀ k, E k → k < W.heap.size) (hpi : ∀ p ∈ ps, I64 p.1) (hnn : nn ≤ 100000) (hps : ps.length ≤ 100000) (hsz : ∀ f, (sget m f).size + total ps ≤ 140737488355328)
    (h1 : 1 ≤ first) (h2 : first + K ≤ 4611686018427387904) (hK : isFile m ps (first + K) = false)
    (hA : ∀ pre A B, J pre A → Kept NoF A B → J pre B)
    (hY : ∀ pre x W, J pre W → pre ++ [x] <+: segsF (isFile m ps) (dataOf m ps) K first → YieldAt Fence.wide (n - 1) Try.prog l #[.int .i64 x.1, .string x.2] W fun e W' =>
      (e = .returned (.bool true) ∧ J (pre ++ [x]) W' ∧ KS (fun k => F k ∨ k = Bd ∨ k = Bf) E W W') ∨ (e = .returned (.bool false) ∧ Jx (pre ++ [x]) W'))
    (h0 : J [] W) :
    CallsIn Fence.wide n Try.prog 75 #[.func (.yield l) #[] #[], .pointer (some ⟨Bd, 0, none⟩), .pointer (some ⟨Bf, 0, none⟩)] W fun e W' => (∃ v, e = .returned v) ∧
      ((∃ ys, ys = segsF (isFile m ps) (dataOf m ps) K first ∧ J ys W') ∨ (∃ pre, pre <+: segsF (isFile m ps) (dataOf m ps) K first ∧ Jx pre W')) := by
  have hfn : ∀ k, Fence.wide.fn k := fun _ => trivial
  obtain ⟨FF, hFF⟩ : ∃ FF : Nat → Prop, FF = fun k => F k ∨ k = Bd ∨ k = Bf := ⟨_, rfl⟩
  have hFlt : ∀ k, FF k → k < W.heap.size := by
    intro k hk
    rw [hFF] at hk
    rcases hk with h | rfl | rfl
    · exact hd.lt k h
    · exact hBd.lt
    · exact hBf.lt
  have hFF1 : ∀ k, F k → FF k := fun k h => by rw [hFF]; exact .inl h
  have hFF2 : FF Bd := by rw [hFF]; exact .inr (.inl rfl)
  have hFF3 : FF Bf := by rw [hFF]; exact .inr (.inr rfl)
  rw [← hFF] at hY
  have hfi := files_any hd hpi hnn hps
  have c1 : W.cell? ⟨Bd, 0, none⟩ = some (.pointer (some ⟨g, 0, none⟩)) := hBd.cell 0
  have HA := Lib.hid hA; have HY := Lib.hid hY; have HFI := Lib.hid hfi; have HH0 := Lib.hid h0; have HFL := Lib.hid hFlt; have HK := Lib.hid hK; have HE := Lib.hid hE; have HSZ := Lib.hid hsz
  have HF1 := Lib.hid hFF1; have HF2 := Lib.hid hFF2; have HF3 := Lib.hid hFF3; have HD := Lib.hid hd; have HBD := Lib.hid hBd; have HBF := Lib.hid hBf; have HNN := Lib.hid hnn; have HPS := Lib.hid hps
  clear hA hY hfi h0 hFlt hK hE hsz hFF1 hFF2 hFF3 hd hBd hBf hpi hFF
  refine callsIn_of_wp Try.func75 rfl trivial ?_ rfl
  simp only [Try.ntmps75, List.size_toArray, List.length_cons, List.length_nil, Nat.reduceAdd, Nat.reduceSub, Array.replicate_succ, Array.replicate_zero, List.push_toArray, List.append_toArray, List.nil_append, List.cons_append]
  gi_wp2_with (gi_at_call 18; (refine (callsIn_wide.2 HFI.out).mono ?_; rintro e W1 ⟨fl, A, c, rfl, hfa, hown, hnew, hk⟩; have c2 : W1.cell? ⟨Bf, 0, none⟩ = some (.int .i64 first) := (HBF.out.kept hk (fun z => z)).cell 0; have HFA := Lib.hid hfa; have HOWN := Lib.hid hown; have HNEW := Lib.hid hnew; have HK1 := Lib.hid hk; clear hfa hown hnew hk))
  have hks1 : KS FF E W W1 := KS.of_kept HK1.out HFL.out
  have hj1 : J [] W1 := HA.out _ _ _ HH0.out HK1.out
  have HKS1 := Lib.hid hks1; have HJ1 := Lib.hid hj1
  clear hks1 hj1
  gi_loopw [5] (fun v5 wr => ∃ (x : Int) (j : Nat) (pre : List (Int × ByteArray)), v5 = .int .i64 x ∧ first ≤ x ∧ x + j = first + K ∧ segsF (isFile m ps) (dataOf m ps) K first = pre ++ segsF (isFile m ps) (dataOf m ps) j x ∧ J pre wr ∧ KS FF E W1 wr) (fun v5 _ => (first + K - intOf v5).toNat)
  case atStart => exact ⟨first, K, [], rfl, Int.le_refl _, rfl, rfl, HJ1.out, KS.refl⟩
  case round =>
    obtain ⟨x, j, pre, rfl, hx1, hx2, hL, hJ, hks⟩ := hrel
    have HL := Lib.hid hL; have HJ := Lib.hid hJ; have HKS := Lib.hid hks
    clear hL hJ hks
    have hcap := own_cap HOWN.out
    have hsrc : Src wr 1 A fl.length (fl.map (Value.int .i64)) := by
      refine Src.of_own (own_same HOWN.out fun b hb => ?_)
      obtain ⟨cs, hh⟩ := own_type HOWN.out hb
      have hbE : ¬ E b := fun h => by have h8 := HNEW.out b hb; have h9 := HE.out b h; omega
      exact (HKS.out.ints b cs hbE hh).trans hh.symm
    have hx64 : I64 x := i64_small (by omega) (by omega)
    have hco := SlI.containsI_any wr A c fl x hsrc (by omega)
    have hin : SlI.inB fl x = isFile m ps x := by
      rw [Bool.eq_iff_iff, SlI.inB_iff, HFA.out.mem x]
      exact ⟨fun h => h.2, fun h => ⟨hx64, h⟩⟩
    rw [hin] at hco
    have HCO := Lib.hid hco
    clear hco hin hsrc hcap
    rcases hp : isFile m ps x with _ | _
    · rw [hp] at HCO
      have hno := segsF_no (d := dataOf m ps) hp j
      have HNO := Lib.hid hno
      clear hno hp
      gi_wp2_with (gi_at_call 50; (refine (callsIn_wide.2 HCO.out).mono ?_; rintro e W2 ⟨rfl, rfl⟩))
      go_end0
      exact ⟨⟨_, rfl⟩, .inl ⟨_, by rw [HL.out, HNO.out, List.append_nil], HJ.out⟩⟩
    · rw [hp] at HCO
      obtain ⟨j, rfl⟩ : ∃ j', j = j' + 1 := by
        rcases j with _ | j
        · have e : x = first + K := by omega
          rw [e, HK.out] at hp
          cases hp
        · exact ⟨j, rfl⟩
      have hcons : segsF (isFile m ps) (dataOf m ps) (j + 1) x = (x, dataOf m ps x) :: segsF (isFile m ps) (dataOf m ps) j (x + 1) := by
        rw [segsF, hp]; rfl
      have hL := HL.out
      rw [hcons] at hL
      have hL2 : segsF (isFile m ps) (dataOf m ps) K first = (pre ++ [(x, dataOf m ps x)]) ++ segsF (isFile m ps) (dataOf m ps) j (x + 1) := by rw [hL]; simp
      have hlen : pre ++ [(x, dataOf m ps x)] <+: segsF (isFile m ps) (dataOf m ps) K first := by rw [hL2]; exact List.prefix_append _ _
      have HL2 := Lib.hid hL2; have HLEN := Lib.hid hlen
      have hks0 : KS FF E W wr := HKS1.out.trans HKS.out
      have hdw : DiskAt wr g F nn m ps ser boot := DiskAt.same HD.out fun k hk => hks0.block k (HF1.out k hk)
      have hda := data_any hdw x hx64 HPS.out (HSZ.out x)
      have b1 : wr.cell? ⟨Bd, 0, none⟩ = some (.pointer (some ⟨g, 0, none⟩)) := (show Has wr Bd _ _ from (hks0.block Bd HF2.out).trans HBD.out).cell 0
      have HDA := Lib.hid hda
      clear hL hlen hL2 hcons hp hks0 hdw hda
      gi_wp2_with (first
        | (gi_at_call 50; (refine (callsIn_wide.2 HCO.out).mono ?_; rintro e W2 ⟨rfl, rfl⟩))
        | (gi_at_call 19; (refine (callsIn_wide.2 HDA.out).mono ?_; rintro e w2 ⟨rfl, hk⟩; have HJ2 := Lib.hid (HA.out _ _ _ HJ.out hk); have hfl2 : ∀ k, FF k → k < wr.heap.size := (fun k h => Nat.lt_of_lt_of_le (HFL.out k h) (HKS1.out.trans HKS.out).size); have HB2 := Lib.hid (HKS.out.trans (KS.of_kept hk hfl2)); clear hk hfl2; obtain ⟨fn, tmps, assign, body, hy, hR⟩ := HY.out pre (x, dataOf m ps x) w2 HJ2.out HLEN.out; simp only at hy)))
      refine hR.mono ?_
      rintro e W3 (⟨rfl, hJ3, hk3⟩ | ⟨rfl, hJx3⟩)
      · have HJ3 := Lib.hid hJ3; have HB3 := Lib.hid (HB2.out.trans hk3); clear hJ3 hk3
        gi_wp2
        go_roundw
        case rel => exact ⟨x + 1, j, pre ++ [(x, dataOf m ps x)], rfl, by omega, by omega, HL2.out, HJ3.out, HB3.out⟩
        case measure => simp [intOf]; omega
      · have HJx3 := Lib.hid hJx3; clear hJx3
        gi_wp2
        refine bodyPost_ret (results_none rfl _ _ _) rfl ?_
        exact ⟨⟨_, rfl⟩, .inr ⟨_, by rw [HL2.out]; exact List.prefix_append _ _, HJx3.out⟩⟩
/-- A file of a log, with what a round must know of it. -/
abbrev Sg := { x : Int × ByteArray // x.2.size ≤ 1000000 ∧ 1 ≤ x.1 ∧ x.1 ≤ 4611686018427387904 }
theorem prefix_take {α β : Type} (f : α → β) {ls : List α} {pre : List α} {x : β} (h : pre.map f ++ [x] <+: ls.map f) (hp : pre <+: ls) : ∃ y, f y = x ∧ pre ++ [y] <+: ls := by
  obtain ⟨r, rfl⟩ := hp
  rw [List.map_append] at h
  have h2 := (List.prefix_append_right_inj (pre.map f)).1 h
  rcases r with _ | ⟨y, r⟩
  · have := h2.length_le; simp at this
  · refine ⟨y, ?_, ?_⟩
    · rw [List.map_cons] at h2
      obtain ⟨z, hz⟩ := h2
      simp at hz
      exact hz.1.symm
    · rw [show pre ++ y :: r = (pre ++ [y]) ++ r by simp]; exact List.prefix_append _ _
theorem seg_stops (n : Nat) (hn : 1 ≤ n) (Bd Bf g nn : Nat) (F E : Nat → Prop) (m : Disk.Safe) (ps : List Disk.Pc) (ser boot first : Int) (K : Nat) (ls : List Sg) (w : World)
    (hd : DiskAt w g F nn m ps ser boot) (hBd : Has w Bd 30 #[.pointer (some ⟨g, 0, none⟩)]) (hBf : Has w Bf 3 #[.int .i64 first])
    (hE : ∀ k, E k → k < w.heap.size) (hpi : ∀ p ∈ ps, I64 p.1) (hnn : nn ≤ 100000) (hps : ps.length ≤ 100000) (hsz : ∀ f, (sget m f).size + total ps ≤ 140737488355328)
    (h1 : 1 ≤ first) (h2 : first + K ≤ 4611686018427387904) (hK : isFile m ps (first + K) = false) (hls : ls.map (·.1) = segsF (isFile m ps) (dataOf m ps) K first) :
    SeqStopsK Fence.wide n Try.prog 75 #[.pointer (some ⟨Bd, 0, none⟩), .pointer (some ⟨Bf, 0, none⟩)] (fun x : Sg => #[.int .i64 x.1.1, .string x.1.2]) (KS (fun k => F k ∨ k = Bd ∨ k = Bf) E) (fun ys => ys = ls) (fun pre => pre <+: ls) ls.length w := by
  intro l J Jx W hW hJ hJx hY h0
  have hkw : ∀ k, k < w.heap.size → W.heap[k]? = w.heap[k]? := fun k hk => hW.block k hk
  refine (seg_in n hn l Bd Bf g nn F E m ps ser boot first K (fun pre W => ∃ q, q.map (·.1) = pre ∧ q <+: ls ∧ J q W) (fun pre W => ∃ q, q.map (·.1) = pre ∧ q <+: ls ∧ Jx q W) W
    (DiskAt.same hd fun k hk => hkw k (hd.lt k hk)) ((hkw _ hBd.lt).trans hBd) ((hkw _ hBf.lt).trans hBf) (fun k hk => Nat.lt_of_lt_of_le (hE k hk) hW.size) hpi hnn hps hsz h1 h2 hK ?_ ?_ ⟨[], rfl, List.nil_prefix, h0⟩).mono ?_
  · rintro pre A B ⟨q, h3, h4, h5⟩ hk
    exact ⟨q, h3, h4, hJ q A B none h5 (Fr.grown_kept hk) (fun r e => by cases e)⟩
  · rintro pre x W1 ⟨q, rfl, h4, h5⟩ hpre
    rw [← hls] at hpre
    obtain ⟨y, rfl, hy⟩ := prefix_take _ hpre h4
    refine (hY q y W1 h5 ?_).mono ?_
    · have := hy.length_le; simp at this; omega
    · rintro e W2 (⟨rfl, h6, h7⟩ | ⟨rfl, h6⟩)
      · exact .inl ⟨rfl, ⟨q ++ [y], by simp, hy, h6⟩, h7⟩
      · exact .inr ⟨rfl, q ++ [y], by simp, hy, h6⟩
  · rintro e W2 ⟨he, ⟨ys, rfl, q, h3, h4, h5⟩ | ⟨pre, hpre, q, rfl, h4, h5⟩⟩
    · refine ⟨he, .inl ⟨q, ?_, h5⟩⟩
      refine h4.eq_of_length ?_
      have := congrArg List.length (h3.trans hls.symm)
      simpa using this
    · exact ⟨he, .inr ⟨q, h4, h5⟩⟩
end Wl
end Go.Proofs.Ythgdkhgpboaplaa

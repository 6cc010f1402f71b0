
/- The checkpointed log: read. -/
import Derived.Test.YthgdkhgpboaplaaPt1
set_option linter.unusedSimpArgs false
set_option linter.unusedVariables false
namespace Go.Proofs.Ythgdkhgpboaplaa
open Go.RowKit
set_option maxRecDepth 100000
namespace Pt
open Disk Fr Vn Ops Wl
/-- The texts among a file's. -/
def t1 : List UInt8 → List (List UInt8)
  | c :: r => if c = 84 then [r] else []
  | [] => []
def tt (l : List (List UInt8)) : List (List UInt8) := l.flatMap t1
theorem tt_snoc (l : List (List UInt8)) (t : List UInt8) : tt (l ++ [t]) = tt l ++ t1 t := by simp [tt]
theorem tt_len (l : List (List UInt8)) : (tt l).length ≤ l.length := by
  induction l with
  | nil => exact Nat.le_refl _
  | cons t l ih =>
    show (t1 t ++ tt l).length ≤ _
    have : (t1 t).length ≤ 1 := by
      cases t with
      | nil => exact Nat.zero_le _
      | cons c r => simp only [t1]; split <;> simp
    rw [List.length_append, List.length_cons]
    omega
def rdF (d : Nat → List UInt8) (j : Nat) : List (List UInt8) := tt ((okT (framesL (d j))).drop (if j = 0 then 1 else 0))
def rdT (d : Nat → List UInt8) : Nat → List (List UInt8)
  | 0 => []
  | j + 1 => rdT d j ++ rdF d j
theorem rdF_len (d : Nat → List UInt8) (j : Nat) (h : (d j).length ≤ 1000000) : (rdF d j).length ≤ 1000001 := by
  have h1 := tt_len ((okT (framesL (d j))).drop (if j = 0 then 1 else 0))
  have h2 := okT_len (framesL (d j))
  have h3 : (framesL (d j)).length ≤ (d j).length + 1 := framesF_len _ _ _
  unfold rdF
  rw [List.length_drop] at h1
  omega
theorem rdT_len (d : Nat → List UInt8) (h : ∀ j, (d j).length ≤ 1000000) : ∀ k, (rdT d k).length ≤ k * 1000001
  | 0 => Nat.zero_le _
  | k + 1 => by
    have h1 := rdT_len d h k
    have h2 := rdF_len d k (h k)
    show (rdT d k ++ rdF d k).length ≤ _
    rw [List.length_append, Nat.succ_mul]
    omega
theorem beg_some {b : List UInt8} {c : Nat} (h : beg b = some c) : 0 < (okT (framesL b)).length := by
  unfold beg at h
  rcases hR : nextR b 0 with e0 | ⟨t, to⟩
  · rw [hR] at h; cases h
  · have hto := nextR_to hR
    unfold framesL framesF
    rw [if_neg (by omega), hR]
    show 0 < (t :: okT _).length
    simp
theorem neq_empty (s : ByteArray) : (s.toList != []) = decide (0 < s.size) := by
  rw [ByteArray.toList_eq, ← size_bl]
  cases h : bl s <;> simp [h]
theorem t1_empty {s : ByteArray} (h : s.size = 0) : t1 (bl s) = [] := by
  have : bl s = [] := List.eq_nil_of_length_eq_zero (by rw [size_bl]; exact h)
  rw [this]; rfl
theorem bl_cons (s : ByteArray) (h : 0 < s.size) : bl s = s[0] :: bl (s.extract 1 s.size) := by
  have h1 : bl (s.extract 1 s.size) = (bl s).drop 1 := by
    show (s.extract 1 s.size).data.toList = _
    rw [Lib.extract_data]
    simp only [bl]
    rw [List.take_of_length_le (by rw [List.length_drop, Array.length_toList]; exact Nat.le_refl _)]
  rw [h1]
  have h2 : 0 < (bl s).length := by rw [size_bl]; exact h
  have h3 : (bl s).drop 0 = (bl s)[0] :: (bl s).drop 1 := List.drop_eq_getElem_cons h2
  rw [List.drop_zero] at h3
  exact h3
theorem t1_hit {s : ByteArray} (h : 0 < s.size) (h84 : s[0] = 84) : t1 (bl s) = [bl (s.extract 1 s.size)] := by
  rw [bl_cons s h, h84]; rfl
theorem t1_miss {s : ByteArray} (h : 0 < s.size) (h84 : s[0] ≠ 84) : t1 (bl s) = [] := by
  rw [bl_cons s h]; simp only [t1]; rw [if_neg h84]
theorem tc_cells {w : World} {A : Option Addr} {k : Nat} {l : List (List UInt8)} (h : Src w 1 A k (tcells l)) (hm : 0 < k) (i : Nat) (p : List UInt8) (hp : l[i]? = some p) :
    ∃ ad : Addr, A = some ad ∧ ad.block < w.heap.size ∧ w.cell? (ad.add i) = some (.string (ofL p)) := by
  obtain ⟨ad, e, hb, hc⟩ := h.2 hm
  exact ⟨ad, e, hb, hc i _ (by unfold tcells; rw [List.getElem?_map, hp]; rfl)⟩
def accL (a l : List (List UInt8)) (i : Nat) : List (List UInt8) := a ++ tt (l.take i)
theorem accL_zero (a l : List (List UInt8)) : accL a l 0 = a := by simp [accL, tt]
theorem accL_end (a l : List (List UInt8)) : accL a l l.length = a ++ tt l := by simp [accL]
theorem accL_hit {a l : List (List UInt8)} {i : Nat} {p r : List UInt8} (hp : l[i]? = some p) (h : t1 p = [r]) : accL a l (i + 1) = accL a l i ++ [r] := by
  unfold accL
  rw [Disk.take_snoc hp, tt_snoc, h, List.append_assoc]
theorem accL_miss {a l : List (List UInt8)} {i : Nat} {p : List UInt8} (hp : l[i]? = some p) (h : t1 p = []) : accL a l (i + 1) = accL a l i := by
  unfold accL
  rw [Disk.take_snoc hp, tt_snoc, h, List.append_nil]
theorem accL_len (a l : List (List UInt8)) (i : Nat) : (accL a l i).length ≤ a.length + l.length := by
  have h1 := tt_len (l.take i)
  have h2 := List.length_take_le i l
  have h3 : (l.take i).length ≤ l.length := by rw [List.length_take]; omega
  unfold accL
  rw [List.length_append]
  omega
theorem tcells_snoc (l : List (List UInt8)) (t : List UInt8) : tcells (l ++ [t]) = tcells l ++ [.string (ofL t)] := by simp [tcells]
theorem one_str (x : ByteArray) : ∀ u ∈ [Value.string x], u.oneCell' = true := by
  intro u hu
  obtain rfl : u = .string x := by simpa using hu
  rfl
/-- A round of the collecting loop: one text more. -/
theorem app_step {w wr w9 : World} {A' A9 AL : Option Addr} {c' c9 m1 : Nat} {acc l : List (List UInt8)} {s : ByteArray} (hr : NewSl 9 1 w.heap.size wr A' acc.length c' (tcells acc)) (hk : Kept NoF w wr) (hs : Src wr 1 AL m1 (tcells l))
    (ho : w9.ownsRow 0 9 1 (.slice A9 (acc.length + 1) c9) (acc.length + 1) (tcells acc ++ [.string s])) (hg : (wr.alloc (.cells #[.string s] 9)).grownBy w9 (Value.slice A' acc.length c').ownBlock)
    (ha : (Value.slice A9 (acc.length + 1) c9).ownBlock = (Value.slice A' acc.length c').ownBlock ∨ (Value.slice A9 (acc.length + 1) c9).ownBlock = some (wr.alloc (.cells #[.string s] 9)).heap.size)
    (hb : ∀ ad : Addr, AL = some ad → (Value.slice A' acc.length c').ownBlock ≠ some ad.block) (hm : 0 < m1) :
    NewSl 9 1 w.heap.size w9 A9 (acc.length + 1) c9 (tcells (acc ++ [bl s])) ∧ Kept NoF w w9 ∧ Src w9 1 AL m1 (tcells l) ∧ ∀ ad : Addr, AL = some ad → (Value.slice A9 (acc.length + 1) c9).ownBlock ≠ some ad.block := by
  have hka : Kept (fun k => (Value.slice A' acc.length c').ownBlock = some k) wr w9 := Kept.grown ((Kept.refl _ wr).alloc _) hg (fun k hk => .inl hk)
  refine ⟨⟨?_, fun k hk9 => ?_⟩, hk.trans hka (fun k hk => .inr (hr.2 k hk)), hs.kept hka (fun ad e => hb ad e), fun ad e h => ?_⟩
  · rw [tcells_snoc, ofL_bl]; exact ho
  · rcases ha with e | e
    · exact hr.2 k (e.symm.trans hk9)
    · have h9 := e.symm.trans hk9
      injection h9 with h9
      have := hk.size
      simp at h9
      omega
  · rcases ha with e2 | e2
    · exact hb ad e (e2.symm.trans h)
    · obtain ⟨ad2, e3, hlt, _⟩ := hs.2 hm
      rw [e] at e3
      injection e3 with e3
      subst e3
      have h9 := e2.symm.trans h
      injection h9 with h9
      simp at h9
      omega
def PReadPost (w : World) (want : Nat) (L : List (List UInt8)) (e : Ending) (w' : World) : Prop :=
  ∃ A c, e = .returned (.tuple #[.slice A L.length c, .bool (decide (want ≤ L.length))]) ∧ NewSl 9 1 w.heap.size w' A L.length c (tcells L) ∧ Kept NoF w w'
section
variable {F : Nat → Prop} {w : World} {g n : Nat} {m : Disk.Safe} {ps : List Disk.Pc} {ser boot : Int}
set_option maxHeartbeats 8000000 in
theorem pread_any (h : DiskAt w g F n m ps ser boot) (f : Int) (K want : Nat) (hpi : ∀ p ∈ ps, I64 p.1) (hn : n ≤ 100000) (hlen : ps.length ≤ 100000) (hsz : ∀ x, (dataOf m ps x).size ≤ 1000000) (hsz2 : ∀ x, (sget m x).size + total ps ≤ 1000000000) (hf0 : 0 ≤ f) (hfK : f + K ≤ 1073841824) (hK : K ≤ 100000)
    (h0 : beg (bl (dataOf m ps f)) = some want)
    (h1 : ∀ j : Nat, j < K → isFile m ps (f + 1 + j) = true ∧ beg (bl (dataOf m ps (f + 1 + j))) = none) (h2 : isFile m ps (f + 1 + K) = false ∨ ∃ c, beg (bl (dataOf m ps (f + 1 + K))) = some c) :
    Calls Try.prog 25 #[.pointer (some ⟨g, 0, none⟩), .int .i64 f] w (PReadPost w want (rdT (fun j : Nat => bl (dataOf m ps (f + j))) (K + 1))) := by
  have hbe := begins_any h f (i64_small hf0 (by omega)) hlen (by have := hsz f; omega) (by have := hsz2 f; omega)
  have hen := fun (W : World) (hW : Kept NoF w W) => end_any (h.kept hW (fun _ _ z => z)) f K hpi hn hlen hsz2 hf0 (by omega) h1 h2
  have hda := fun (x : Int) (hx : 0 ≤ x ∧ x ≤ 2305843009213693952) (W : World) (hW : Kept NoF w W) => data_any (h.kept hW (fun _ _ z => z)) x (i64_small hx.1 (by omega)) hlen (by have := hsz2 x; omega)
  obtain ⟨d, hd⟩ : ∃ d : Nat → List UInt8, (fun j : Nat => bl (dataOf m ps (f + j))) = d := ⟨_, rfl⟩
  have hdj : ∀ j : Nat, bl (dataOf m ps (f + j)) = d j := fun j => by rw [← hd]
  have hdl : ∀ j, (d j).length ≤ 1000000 := fun j => by rw [← hdj j, size_bl]; exact hsz _
  have hd0 : beg (d 0) = some want := by rw [← hdj 0]; simpa using h0
  have hrl := rdT_len d hdl
  rw [h0] at hbe
  rw [hd]
  unfold cntT at hbe
  have HBE := Lib.hid hbe; have HEN := Lib.hid hen; have HDA := Lib.hid hda; have HDJ := Lib.hid hdj; have HDL := Lib.hid hdl; have HD0 := Lib.hid hd0; have HRL := Lib.hid hrl
  clear hbe hen hda hdj hdl hd0 hrl h0 h1 h2 h hpi hn hlen hsz hsz2 hd
  go_enter Try.func25, Try.ntmps25
  go_wp2_with fail
  refine HBE.out.mono ?_
  rintro e w1 ⟨rfl, hk1⟩
  have HK1 := Lib.hid hk1; clear hk1
  go_wp2_with fail
  go_loopw [8, 9] (fun v8 v9 wr => ∃ (j : Nat) (A : Option Addr) (c : Nat), j ≤ K + 1 ∧ v9 = .int .i64 (f + j) ∧ v8 = .slice A (rdT d j).length c ∧ NewSl 9 1 w.heap.size wr A (rdT d j).length c (tcells (rdT d j)) ∧ Kept NoF w wr) (fun _ v9 _ => (f + K + 1 - intOf v9).toNat)
  case atStart => exact ⟨0, none, 0, Nat.zero_le _, by simp, rfl, ⟨⟨rfl, .inl ⟨rfl, rfl⟩⟩, fun k hk => by cases hk⟩, HK1.out⟩
  case round =>
    obtain ⟨j, A, c, hj, rfl, rfl, hrow, hk⟩ := hrel
    obtain ⟨x, hx⟩ : ∃ x, f + (j : Int) = x := ⟨_, rfl⟩
    have hx1 : 0 ≤ x := by omega
    have hx2 : x ≤ 2305843009213693952 := by omega
    rw [hx]
    have HX := Lib.hid hx; have HROW := Lib.hid hrow; have HK := Lib.hid hk
    have hen := HEN.out wr hk
    have HE := Lib.hid hen
    clear hrow hk hen hx
    by_cases hjK : j < K + 1
    · have q1 : x < f + 1 + (K : Int) := by have := HX.out; omega
      have hdd := HDA.out x ⟨hx1, hx2⟩
      obtain ⟨D, hD⟩ : ∃ D, dataOf m ps x = D := ⟨_, rfl⟩
      have hDj : bl D = d j := by rw [← hD, ← HX.out]; exact HDJ.out j
      rw [hD] at hdd
      have hDs : D.size ≤ 1000000 := by rw [← size_bl, hDj]; exact HDL.out j
      have hal := fun W => fall_any W D hDs
      have HDD := Lib.hid hdd; have HAL := Lib.hid hal; have HDJ2 := Lib.hid hDj
      clear hdd hal hD hDs hDj
      go_wp2_with fail
      refine HE.out.mono ?_
      rintro e w2 ⟨rfl, hk2⟩
      have HK2 := Lib.hid (HK.out.then hk2)
      have HROW2 := Lib.hid (HROW.out.kept hk2)
      clear hk2
      go_wp2_with fail
      refine (HDD.out _ HK2.out).mono ?_
      rintro e w3 ⟨rfl, hk3⟩
      have HK3 := Lib.hid (HK2.out.then hk3)
      have HROW3 := Lib.hid (HROW2.out.kept hk3)
      clear hk3
      go_wp2_with fail
      refine (HAL.out _).mono ?_
      rintro e w4 ⟨A2, c2, rfl, hn2, hb2⟩
      have hk4 : Kept NoF w3 w4 := Kept.of_below hb2 (fun k hk _ => hk)
      have HK4 := Lib.hid (HK3.out.then hk4)
      have HROW4 := Lib.hid (HROW3.out.kept hk4)
      have hcap2 := own_cap hn2.1
      have hlen2 : (okT (framesL (bl D))).length ≤ 1000001 := by
        have h1 := okT_len (framesL (bl D))
        have h2 : (framesL (bl D)).length ≤ (bl D).length + 1 := framesF_len _ _ _
        have h3 := HDL.out j
        rw [← HDJ2.out] at h3
        omega
      obtain ⟨l0, hl0⟩ : ∃ l0, okT (framesL (bl D)) = l0 := ⟨_, rfl⟩
      rw [hl0] at hn2 hcap2 hlen2 ⊢
      have HL0 := Lib.hid hl0
      have hend : ∀ i, i = (l0.drop (if j = 0 then 1 else 0)).length → accL (rdT d j) (l0.drop (if j = 0 then 1 else 0)) i = rdT d (j + 1) := by
        rintro i rfl
        rw [accL_end]
        show _ = rdT d j ++ rdF d j
        unfold rdF
        rw [← HDJ2.out, HL0.out]
      have hrl : (rdT d j).length ≤ 100001000001 := by have := HRL.out j; have h9 : j * 1000001 ≤ 100001 * 1000001 := Nat.mul_le_mul_right _ (by omega); omega
      have HEND := Lib.hid hend
      have HNB := Lib.hid hn2.2
      clear hl0 hend hk4 hb2
      by_cases hj0 : j = 0
      · have hpos : 0 < l0.length := by
          rw [← HL0.out, HDJ2.out, hj0]
          exact beg_some HD0.out
        obtain ⟨nl, hnl⟩ : ∃ nl, l0.length = nl + 1 := ⟨l0.length - 1, by omega⟩
        have hsr := Src.of_own hn2.1
        obtain ⟨ad, rfl, _, _⟩ := hsr.2 hpos
        have hsd := hsr.drop (k := 1) hpos hcap2.1
        rw [hnl] at hsr hcap2 hsd hlen2 ⊢
        have hxf : x = f := by have := HX.out; omega
        have qe : (x == f) = true := by simpa using hxf
        have hdl : (l0.drop (if j = 0 then 1 else 0)).length = nl := by rw [if_pos hj0, List.length_drop, hnl]; omega
        have e1 : (tcells l0).drop (1 * 1) = tcells (l0.drop (if j = 0 then 1 else 0)) := by rw [if_pos hj0]; unfold tcells; rw [List.map_drop]
        rw [e1] at hsd
        have hcc : (nl : Int) + 1 ≤ c2 := by omega
        have hc1 : (1 : Int) ≤ c2 := by omega
        have HDL2 := Lib.hid hdl; have HSD := Lib.hid hsd; have HXF := Lib.hid hxf
        clear hsr hsd e1 hdl hn2 hnl hxf hpos hj0
        by_cases hcc1 : c2 = 1
        · subst hcc1
          obtain rfl : nl = 0 := by omega
          rw [if_pos rfl] at HSD
          obtain ⟨l, hl⟩ : ∃ l, l0.drop (if j = 0 then 1 else 0) = l := ⟨_, rfl⟩
          rw [hl] at HDL2 HSD HEND
          have HLL := Lib.hid HDL2.out
          have HSB : Hid (∀ ad5 : Addr, (some ad) = some ad5 → (Value.slice A (rdT d j).length c).ownBlock ≠ some ad5.block) := Lib.hid (by
            intro ad5 e h
            have h1 := own_lt HROW3.out.1 h
            have h2 := HNB.out ad5.block (by injection e with e; subst e; rfl)
            omega)
          clear hl
          go_wp2_with fail
          go_loopw [8, 14, 44] (fun v8 _ v44 wr => ∃ (i : Nat) (A' : Option Addr) (c' : Nat), i ≤ 0 ∧ v44 = .int .i64 i ∧ v8 = .slice A' (accL (rdT d j) l i).length c' ∧ NewSl 9 1 w.heap.size wr A' (accL (rdT d j) l i).length c' (tcells (accL (rdT d j) l i)) ∧ Kept NoF w wr ∧ Src wr 1 (some ad) 0 (tcells l) ∧ ∀ ad5 : Addr, (some ad) = some ad5 → (Value.slice A' (accL (rdT d j) l i).length c').ownBlock ≠ some ad5.block) (fun _ _ v44 _ => 0 - (intOf v44).toNat)
          case atStart => exact ⟨0, A, c, Nat.zero_le _, rfl, by rw [accL_zero], by rw [accL_zero]; exact HROW4.out, HK4.out, HSD.out, by rw [accL_zero]; exact HSB.out⟩
          case round =>
            obtain ⟨i, A', c', hi, rfl, rfl, hr, hk, hsw, hsn⟩ := hrel
            have hal := accL_len (rdT d j) l i
            rw [HLL.out] at hal
            by_cases hil : i < 0
            · omega
            · have hie := HEND.out i (by rw [HLL.out]; omega)
              rw [hie] at hr
              have HIE := Lib.hid hie; have HR := Lib.hid hr; have HK5 := Lib.hid hk
              clear hr hk hie hal hsw hsn
              go_wp2
              go_roundw
              case rel => exact ⟨j + 1, A', c', by omega, by have := HX.out; congr 1; omega, by rw [HIE.out], HR.out, HK5.out⟩
              case measure => have := HX.out; simp [intOf]; omega
        · rw [if_neg hcc1] at HSD
          obtain ⟨l, hl⟩ : ∃ l, l0.drop (if j = 0 then 1 else 0) = l := ⟨_, rfl⟩
          rw [hl] at HDL2 HSD HEND
          have hsd2 : Src w4 1 (some ⟨ad.block, ad.off + 1, none⟩) nl (tcells l) := by
            have h9 := HSD.out
            rw [Option.map_some, add_lit ad (by decide)] at h9
            exact h9
          clear HSD
          have HSD := Lib.hid hsd2
          have HLL := Lib.hid HDL2.out
          have HSB : Hid (∀ ad5 : Addr, (some ⟨ad.block, ad.off + 1, none⟩) = some ad5 → (Value.slice A (rdT d j).length c).ownBlock ≠ some ad5.block) := Lib.hid (by
            intro ad5 e h
            have h1 := own_lt HROW3.out.1 h
            have h2 := HNB.out ad5.block (by injection e with e; subst e; rfl)
            omega)
          clear hl hsd2
          go_wp2_with fail
          go_loopw [8, 14, 44] (fun v8 _ v44 wr => ∃ (i : Nat) (A' : Option Addr) (c' : Nat), i ≤ nl ∧ v44 = .int .i64 i ∧ v8 = .slice A' (accL (rdT d j) l i).length c' ∧ NewSl 9 1 w.heap.size wr A' (accL (rdT d j) l i).length c' (tcells (accL (rdT d j) l i)) ∧ Kept NoF w wr ∧ Src wr 1 (some ⟨ad.block, ad.off + 1, none⟩) nl (tcells l) ∧ ∀ ad5 : Addr, (some ⟨ad.block, ad.off + 1, none⟩) = some ad5 → (Value.slice A' (accL (rdT d j) l i).length c').ownBlock ≠ some ad5.block) (fun _ _ v44 _ => nl - (intOf v44).toNat)
          case atStart => exact ⟨0, A, c, Nat.zero_le _, rfl, by rw [accL_zero], by rw [accL_zero]; exact HROW4.out, HK4.out, HSD.out, by rw [accL_zero]; exact HSB.out⟩
          case round =>
            obtain ⟨i, A', c', hi, rfl, rfl, hr, hk, hsw, hsn⟩ := hrel
            have hal := accL_len (rdT d j) l i
            rw [HLL.out] at hal
            by_cases hil : i < nl
            · obtain ⟨p, hp⟩ : ∃ p, l[i]? = some p := ⟨_, List.getElem?_eq_getElem (by rw [HLL.out]; exact hil)⟩
              obtain ⟨ad', e, had, e0⟩ := tc_cells hsw (by omega) i p hp
              obtain rfl : ad' = ⟨ad.block, ad.off + 1, none⟩ := by injection e with e; exact e.symm
              obtain ⟨s, hs⟩ : ∃ s, ofL p = s := ⟨_, rfl⟩
              have hbs : p = bl s := by rw [← hs, bl_ofL]
              rw [hs] at e0
              have e0' : wr.cell? ⟨ad.block, ad.off + 1 + i, none⟩ = some (.string s) := by rw [← e0]; congr 1; unfold Addr.add; split <;> simp_all
              have he := empty_size s
              have he2 := neq_empty s
              have HR := Lib.hid hr; have HK5 := Lib.hid hk; have HSW := Lib.hid hsw; have HSN := Lib.hid hsn
              rw [hbs] at hp
              have HP := Lib.hid hp
              clear hr hk hs hbs hp had hsw hsn
              by_cases hz : s.size = 0
              · rw [decide_eq_true hz] at he
                rw [decide_eq_false (by omega)] at he2
                have hm := accL_miss (a := rdT d j) HP.out (t1_empty hz)
                have HM := Lib.hid hm
                clear hm hz
                go_wp2
                go_roundw
                case rel => exact ⟨i + 1, A', c', by omega, by go_num, by rw [HM.out], by rw [HM.out]; exact HR.out, HK5.out, HSW.out, by rw [HM.out]; exact HSN.out⟩
                case measure => simp [intOf]; omega
              · rw [decide_eq_false hz] at he
                rw [decide_eq_true (by omega)] at he2
                have hpos : 0 < s.size := by omega
                have hlt : s[0].toNat < 256 := UInt8.toNat_lt _
                by_cases h84 : s[0] = 84
                · have hq : ((s[0].toNat : Int) == 84) = true := by rw [h84]; rfl
                  have hh := accL_hit (a := rdT d j) HP.out (t1_hit hpos h84)
                  have hone : (1 : Int) ≤ s.size := by omega
                  have HH := Lib.hid hh
                  have hM : (accL (rdT d j) l i).length + 1 ≤ maxLen := by unfold maxLen; omega
                  have hY : ((accL (rdT d j) l i).length + 1) * 16 ≤ 140737488355328 := by omega
                  have HMX := Lib.hid hM; have HY := Lib.hid hY
                  have HOW := Lib.hid (own_kept HR.out.1 (F := NoF) ((Kept.refl _ wr).alloc (.cells #[.string (s.extract 1 s.size)] 9)) (fun _ _ z => z))
                  clear hh h84 hM hY hal
                  go_wp2_with (at_builtin; refine list_append_src elemStr (.tmp 55) (.tmp 58) rfl rfl (Value.slice A' (accL (rdT d j) l i).length c') rfl HOW.out 1 rfl (Src.of_has (m := 1) (Has.new wr 9 #[.string (s.extract 1 s.size)]) rfl) (one_str _) HMX.out HY.out ?_; intro A9 c9 w9 ho9 hg9 ha9; have HO9 := Lib.hid ho9; have HG9 := Lib.hid hg9; have HA9 := Lib.hid ha9; clear ho9 hg9 ha9)
                  obtain ⟨f1, f2, f3, f4⟩ := app_step HR.out HK5.out HSW.out HO9.out HG9.out HA9.out HSN.out (by omega)
                  have HF1 := Lib.hid f1; have HF2 := Lib.hid f2; have HF3 := Lib.hid f3; have HF4 := Lib.hid f4
                  clear f1 f2 f3 f4
                  go_roundw
                  case rel => exact ⟨i + 1, A9, c9, by omega, by go_num, by rw [HH.out, List.length_append]; rfl, by rw [HH.out, List.length_append]; exact HF1.out, HF2.out, HF3.out, by rw [HH.out, List.length_append]; exact HF4.out⟩
                  case measure => simp [intOf]; omega
                · have hn84 : s[0].toNat ≠ 84 := fun h => h84 (UInt8.toNat_inj.1 (by rw [h]; rfl))
                  have hq : ((s[0].toNat : Int) == 84) = false := by simp; omega
                  have hm := accL_miss (a := rdT d j) HP.out (t1_miss hpos h84)
                  have HM := Lib.hid hm
                  clear hm h84 hn84
                  go_wp2
                  go_roundw
                  case rel => exact ⟨i + 1, A', c', by omega, by go_num, by rw [HM.out], by rw [HM.out]; exact HR.out, HK5.out, HSW.out, by rw [HM.out]; exact HSN.out⟩
                  case measure => simp [intOf]; omega
            · have hie := HEND.out i (by rw [HLL.out]; omega)
              rw [hie] at hr
              have HIE := Lib.hid hie; have HR := Lib.hid hr; have HK5 := Lib.hid hk
              clear hr hk hie hal hsw hsn
              go_wp2
              go_roundw
              case rel => exact ⟨j + 1, A', c', by omega, by have := HX.out; congr 1; omega, by rw [HIE.out], HR.out, HK5.out⟩
              case measure => have := HX.out; simp [intOf]; omega
      · have hxf : x ≠ f := by have := HX.out; omega
        have qe : (x == f) = false := by simpa using hxf
        obtain ⟨l, hl⟩ : ∃ l, l0.drop (if j = 0 then 1 else 0) = l := ⟨_, rfl⟩
        have hll0 : l = l0 := by rw [← hl, if_neg hj0, List.drop_zero]
        rw [hl] at HEND
        have hsd := Src.of_own hn2.1
        rw [← hll0] at hsd
        have hlen3 : l.length = l0.length := by rw [hll0]
        have HSD : Hid (Src w4 1 A2 l0.length (tcells l)) := Lib.hid (by rw [← hlen3]; exact hsd)
        have HLL := Lib.hid hlen3
        have HSB : Hid (∀ ad5 : Addr, A2 = some ad5 → (Value.slice A (rdT d j).length c).ownBlock ≠ some ad5.block) := Lib.hid (by
          intro ad5 e h
          have h1 := own_lt HROW3.out.1 h
          have h2 := HNB.out ad5.block (by rw [e]; rfl)
          omega)
        clear hl hll0 hsd hlen3 hn2 hxf hj0
        go_wp2_with fail
        go_loopw [8, 14, 44] (fun v8 _ v44 wr => ∃ (i : Nat) (A' : Option Addr) (c' : Nat), i ≤ l0.length ∧ v44 = .int .i64 i ∧ v8 = .slice A' (accL (rdT d j) l i).length c' ∧ NewSl 9 1 w.heap.size wr A' (accL (rdT d j) l i).length c' (tcells (accL (rdT d j) l i)) ∧ Kept NoF w wr ∧ Src wr 1 A2 l0.length (tcells l) ∧ ∀ ad5 : Addr, A2 = some ad5 → (Value.slice A' (accL (rdT d j) l i).length c').ownBlock ≠ some ad5.block) (fun _ _ v44 _ => l0.length - (intOf v44).toNat)
        case atStart => exact ⟨0, A, c, Nat.zero_le _, rfl, by rw [accL_zero], by rw [accL_zero]; exact HROW4.out, HK4.out, HSD.out, by rw [accL_zero]; exact HSB.out⟩
        case round =>
          obtain ⟨i, A', c', hi, rfl, rfl, hr, hk, hsw, hsn⟩ := hrel
          have hal := accL_len (rdT d j) l i
          rw [HLL.out] at hal
          by_cases hil : i < l0.length
          · obtain ⟨p, hp⟩ : ∃ p, l[i]? = some p := ⟨_, List.getElem?_eq_getElem (by rw [HLL.out]; exact hil)⟩
            obtain ⟨ad', e, had, e0⟩ := tc_cells hsw (by omega) i p hp
            obtain rfl := e
            obtain ⟨s, hs⟩ : ∃ s, ofL p = s := ⟨_, rfl⟩
            have hbs : p = bl s := by rw [← hs, bl_ofL]
            rw [hs] at e0
            skip
            have he := empty_size s
            have he2 := neq_empty s
            have HR := Lib.hid hr; have HK5 := Lib.hid hk; have HSW := Lib.hid hsw; have HSN := Lib.hid hsn
            rw [hbs] at hp
            have HP := Lib.hid hp
            clear hr hk hs hbs hp had hsw hsn
            by_cases hz : s.size = 0
            · rw [decide_eq_true hz] at he
              rw [decide_eq_false (by omega)] at he2
              have hm := accL_miss (a := rdT d j) HP.out (t1_empty hz)
              have HM := Lib.hid hm
              clear hm hz
              go_wp2
              go_roundw
              case rel => exact ⟨i + 1, A', c', by omega, by go_num, by rw [HM.out], by rw [HM.out]; exact HR.out, HK5.out, HSW.out, by rw [HM.out]; exact HSN.out⟩
              case measure => simp [intOf]; omega
            · rw [decide_eq_false hz] at he
              rw [decide_eq_true (by omega)] at he2
              have hpos : 0 < s.size := by omega
              have hlt : s[0].toNat < 256 := UInt8.toNat_lt _
              by_cases h84 : s[0] = 84
              · have hq : ((s[0].toNat : Int) == 84) = true := by rw [h84]; rfl
                have hh := accL_hit (a := rdT d j) HP.out (t1_hit hpos h84)
                have hone : (1 : Int) ≤ s.size := by omega
                have HH := Lib.hid hh
                have hM : (accL (rdT d j) l i).length + 1 ≤ maxLen := by unfold maxLen; omega
                have hY : ((accL (rdT d j) l i).length + 1) * 16 ≤ 140737488355328 := by omega
                have HMX := Lib.hid hM; have HY := Lib.hid hY
                have HOW := Lib.hid (own_kept HR.out.1 (F := NoF) ((Kept.refl _ wr).alloc (.cells #[.string (s.extract 1 s.size)] 9)) (fun _ _ z => z))
                clear hh h84 hM hY hal
                go_wp2_with (at_builtin; refine list_append_src elemStr (.tmp 55) (.tmp 58) rfl rfl (Value.slice A' (accL (rdT d j) l i).length c') rfl HOW.out 1 rfl (Src.of_has (m := 1) (Has.new wr 9 #[.string (s.extract 1 s.size)]) rfl) (one_str _) HMX.out HY.out ?_; intro A9 c9 w9 ho9 hg9 ha9; have HO9 := Lib.hid ho9; have HG9 := Lib.hid hg9; have HA9 := Lib.hid ha9; clear ho9 hg9 ha9)
                obtain ⟨f1, f2, f3, f4⟩ := app_step HR.out HK5.out HSW.out HO9.out HG9.out HA9.out HSN.out (by omega)
                have HF1 := Lib.hid f1; have HF2 := Lib.hid f2; have HF3 := Lib.hid f3; have HF4 := Lib.hid f4
                clear f1 f2 f3 f4
                go_roundw
                case rel => exact ⟨i + 1, A9, c9, by omega, by go_num, by rw [HH.out, List.length_append]; rfl, by rw [HH.out, List.length_append]; exact HF1.out, HF2.out, HF3.out, by rw [HH.out, List.length_append]; exact HF4.out⟩
                case measure => simp [intOf]; omega
              · have hn84 : s[0].toNat ≠ 84 := fun h => h84 (UInt8.toNat_inj.1 (by rw [h]; rfl))
                have hq : ((s[0].toNat : Int) == 84) = false := by simp; omega
                have hm := accL_miss (a := rdT d j) HP.out (t1_miss hpos h84)
                have HM := Lib.hid hm
                clear hm h84 hn84
                go_wp2
                go_roundw
                case rel => exact ⟨i + 1, A', c', by omega, by go_num, by rw [HM.out], by rw [HM.out]; exact HR.out, HK5.out, HSW.out, by rw [HM.out]; exact HSN.out⟩
                case measure => simp [intOf]; omega
          · have hie := HEND.out i (by rw [HLL.out]; omega)
            rw [hie] at hr
            have HIE := Lib.hid hie; have HR := Lib.hid hr; have HK5 := Lib.hid hk
            clear hr hk hie hal hsw hsn
            go_wp2
            go_roundw
            case rel => exact ⟨j + 1, A', c', by omega, by have := HX.out; congr 1; omega, by rw [HIE.out], HR.out, HK5.out⟩
            case measure => have := HX.out; simp [intOf]; omega
    · have q1 : ¬ x < f + 1 + (K : Int) := by have := HX.out; omega
      obtain rfl : j = K + 1 := by omega
      go_wp2_with fail
      refine HE.out.mono ?_
      rintro e w2 ⟨rfl, hk2⟩
      go_wp2
      go_ret2
      exact ⟨A, c, rfl, HROW.out.kept hk2, HK.out.then hk2⟩
end
end Pt
end Go.Proofs.Ythgdkhgpboaplaa

/- The walk of ScriptNoise. -/
import Derived.Test.YtfobbocaodppeaaScr18
set_option linter.unusedSimpArgs false
set_option linter.unusedVariables false
namespace Go.Proofs.Ytfobbocaodppeaa
open Go.RowKit Go.WideShapes Go.ChangeShapes
set_option maxRecDepth 100000
namespace Scr
open Ops Vn Wire
/-- Bytes that are whole pieces, with the steps xs in them. -/
def Whole (B : List UInt8) (ws : List EvC) : Prop := ∀ r, ofS (B ++ r) = ws ++ ofS r
theorem Whole.nil : Whole [] [] := fun r => rfl
theorem Whole.append {B B' : List UInt8} {ws ws' : List EvC} (h : Whole B ws) (h' : Whole B' ws') : Whole (B ++ B') (ws ++ ws') := fun r => by rw [List.append_assoc, h, h', List.append_assoc]
theorem Whole.step {x : EvC} (h : oneC x = 0) (ht : TmOk x) : Whole (byteE x) [clean x] := fun r => by
  have h1 := ofS_putS [x] r (fun e he => by simp at he; rw [he]; exact h) (fun e he => by simp at he; rw [he]; exact ht)
  have e1 : putS [x] = byteE x := by unfold putS; simp
  rw [e1] at h1
  exact h1
theorem Whole.noise {b : UInt8} {p : List UInt8} (hb : b.toNat = p.length) (h : ofS (b :: p) = []) : Whole (b :: p) [] := fun r => by
  have h1 := ofS_piece p [] b hb
  rw [List.append_nil, h] at h1
  have h2 : (readE (ofL p)).toList = [] := (List.append_eq_nil_iff.1 h1.symm).1
  rw [List.cons_append, ofS_piece p r b hb, h2]
theorem flat_one {α : Type} (f : α → Value) (l : List α) : l.flatMap (fun q => [f q]) = l.map f := by
  induction l with
  | nil => rfl
  | cons a l ih => rw [List.flatMap_cons, List.map_cons, ih]; rfl
theorem one_cell {w : World} {A : Option Addr} {m : Nat} {α : Type} {f : α → Value} {l : List α} (h : Src w 1 A m (l.map f)) (hm : 0 < m) (i : Nat) (x : α) (hx : l[i]? = some x) : ∃ ad, A = some ad ∧ ad.block < w.heap.size ∧ w.cell? (ad.add i) = some (f x) := by
  obtain ⟨ad, rfl, had, hc⟩ := h.2 hm
  exact ⟨ad, rfl, had, hc i _ (by simp [hx])⟩
theorem one_slice {w : World} {A : Option Addr} {c : Nat} {l : List EvR} (h : Src w 10 A l.length (vcells l)) (hc : l.length ≤ c) (i : Nat) (e : EvR) (he : l[i]? = some e) (hi : i < l.length) :
    ∃ ad, A = some ad ∧ c ≠ i ∧ Src w 10 (some (ad.add (i * 10))) 1 (vcells [e]) := by
  obtain ⟨ad, rfl, had, _⟩ := h.2 (by omega)
  have h1 := h.drop (k := i) (by omega) hc
  rw [if_neg (by omega)] at h1
  have h2 := h1.take (k := 1) (by omega)
  refine ⟨ad, rfl, by omega, ?_⟩
  have e1 : ((vcells l).drop (i * 10)).take (1 * 10) = vcells [e] := by
    have hl : l = l.take i ++ (e :: l.drop (i + 1)) := by
      have h3 := List.drop_eq_getElem_cons hi
      rw [List.getElem?_eq_getElem hi] at he
      injection he with he
      rw [← he, ← h3, List.take_append_drop]
    have h4 : vcells l = vcells (l.take i) ++ (vcell e ++ vcells (l.drop (i + 1))) := by
      conv => lhs; rw [hl]
      unfold vcells
      rw [List.flatMap_append, List.flatMap_cons]
    have h5 : (vcells (l.take i)).length = i * 10 := by rw [vcells_length, List.length_take]; congr 1; omega
    rw [h4, ← h5, List.drop_left]
    unfold vcells
    simp only [List.flatMap_cons, List.flatMap_nil, List.append_nil]
    exact List.take_left' rfl
  rw [e1] at h2
  simpa using h2
theorem chkS_one {l : List EvC} (h : chkS l = 0) {x : EvC} (hx : x ∈ l) : chkS [x] = 0 ∧ putR [x] = ofL (byteE x) ∧ (byteE x).length ≤ 256 ∧ oneC x = 0 := by
  have h1 := chkS_ok h x hx
  have h2 : chkS [x] = 0 := chkS_mk fun e he => by simp at he; rw [he]; exact h1
  refine ⟨h2, by unfold putR; rw [if_pos h2]; unfold putS; simp, ?_, h1⟩
  have := (oneC_ok h1).2
  unfold byteE
  rw [List.length_cons]
  omega
theorem cts_take {l : List EvR} {i : Nat} {e : EvR} (h : l[i]? = some e) : ((cts l).take (i + 1)).map clean = ((cts l).take i).map clean ++ [clean e.x] := by
  rw [List.take_add_one, cts_get h, List.map_append]
  rfl
set_option maxHeartbeats 16000000 in
theorem law_noise (w : World) (A : Option Addr) (c : Nat) (l : List EvR) (hl : Src w 10 A l.length (vcells l)) (hcap : l.length ≤ c) (hk : SOk w l) (hb : ∀ e ∈ l, wtE e.x ≤ 1048576)
    (NA : Option Addr) (nc : Nat) (ns : List ByteArray) (hn : Src w 1 NA ns.length (ns.map Value.string)) (hns : ∀ q ∈ ns, q.size ≤ 1048576)
    (TA : Option Addr) (tc : Nat) (ts : List Int) (ht : Src w 1 TA ts.length (ts.map (Value.int .u8))) (hts : ∀ t ∈ ts, 0 ≤ t ∧ t ≤ 255) (htl : ts.length ≤ 140737488355328) :
    Calls Try.prog 4 #[.slice A l.length c, .slice NA ns.length nc, .slice TA ts.length tc] w fun e w' => e = .returned (.bool true) ∧ Below w.heap.size w w' := by
  have hp := parts_any w A c l hl hb
  obtain ⟨z, hz⟩ : ∃ z, partsL l = z := ⟨_, rfl⟩
  rw [hz] at hp
  have HP := Lib.hid hp; clear hp hz
  have HA := Lib.hid awake40_any
  have hfin : ∀ W, Kept NoF w W → Below w.heap.size w W := fun W hW => hW.below (Nat.le_refl _) (fun _ x => x.elim)
  have HFIN := Lib.hid hfin; clear hfin
  by_cases hbig : 20 < z ∨ (¬ 20 < z ∧ 60 < l.length) ∨ (¬ 20 < z ∧ ¬ 60 < l.length ∧ 60 < ns.length)
  · rcases hbig with h1 | ⟨h1, h2⟩ | ⟨h1, h2, h3⟩
    all_goals
      go_enter Try.func4, Try.ntmps4
      go_wp2_with fail
      refine HP.out.mono ?_
      rintro e w2 ⟨rfl, hk2⟩
      have HK2 := Lib.hid hk2; clear hk2
      go_wp2_with fail
      refine (HA.out _).mono ?_
      rintro e w3 ⟨rfl, hk3⟩
      have HK3 := Lib.hid (HK2.out.then hk3); clear hk3
      go_wp2
      go_ret
      exact ⟨rfl, HFIN.out _ HK3.out⟩
  have h1 : ¬ 20 < z := fun h => hbig (.inl h)
  have h2 : ¬ 60 < l.length := fun h => hbig (.inr (.inl ⟨h1, h⟩))
  have h3 : ¬ 60 < ns.length := fun h => hbig (.inr (.inr ⟨h1, h2, h⟩))
  clear hbig
  have hput2 := fun W (hW : Kept NoF w W) => put_any W A c l (hl.kept hW (fun _ _ x => x)) (hk.kept hW) hb (by omega)
  unfold PutPost at hput2
  have hth := fun h => there_plain (l := l) hk h
  have hone := fun h (x : EvR) (hx : x ∈ l) => chkS_one (l := cts l) h (x := x.x) (by rw [cts_map]; exact List.mem_map.2 ⟨x, hx, rfl⟩)
  obtain ⟨S, hS⟩ : ∃ S, putR (cts l) = S := ⟨_, rfl⟩
  obtain ⟨m, hm⟩ : ∃ m, chkS (cts l) = m := ⟨_, rfl⟩
  rw [hS, hm] at hput2 hth
  rw [hm] at hone
  clear hS hm
  have HPUT := Lib.hid hput2; clear hput2
  have HTH := Lib.hid hth; clear hth
  have HONE := Lib.hid hone; clear hone
  have HL := Lib.hid hl; clear hl
  have HKS := Lib.hid hk; clear hk
  have HWT := Lib.hid hb; clear hb
  have HN := Lib.hid hn; clear hn
  have HT := Lib.hid ht; clear ht
  have HTS := Lib.hid hts; clear hts
  have HNS := Lib.hid hns; clear hns
  by_cases hm0 : m = 0
  rotate_left
  · have hm1 : (m != 0) = true := by simpa using hm0
    clear hm0
    go_enter Try.func4, Try.ntmps4
    go_wp2_with fail
    refine HP.out.mono ?_
    rintro e w2 ⟨rfl, hk2⟩
    have HK2 := Lib.hid hk2; clear hk2
    go_wp2_with fail
    refine (HPUT.out _ HK2.out).mono ?_
    rintro e w3 ⟨rfl, hk3⟩
    have HK := Lib.hid (HK2.out.then hk3); clear hk3 HK2
    go_wp2_with fail
    refine (HA.out _).mono ?_
    rintro e w4 ⟨rfl, hk4⟩
    have HK4 := Lib.hid (HK.out.then hk4); clear hk4
    go_wp2
    go_ret
    exact ⟨rfl, HFIN.out _ HK4.out⟩
  subst hm0
  obtain ⟨t1, t2, t3⟩ := HTH.out rfl
  have HTH2 := Lib.hid (And.intro t1 (And.intro t2 t3)); clear t1 t2 t3 HTH
  have hone := HONE.out rfl
  clear HONE
  have HONE := Lib.hid hone; clear hone
  go_enter Try.func4, Try.ntmps4
  go_wp2_with fail
  refine HP.out.mono ?_
  rintro e w2 ⟨rfl, hk2⟩
  have HK2 := Lib.hid hk2; clear hk2
  go_wp2_with fail
  refine (HPUT.out _ HK2.out).mono ?_
  rintro e w3 ⟨rfl, hk3⟩
  have HK := Lib.hid (HK2.out.then hk3); clear hk3 HK2
  go_wp2_with fail
  go_loopw [9, 10] (fun v9 v10 wr => ∃ (i : Nat) (B : List UInt8), i ≤ l.length + 1 ∧ v10 = .int .i64 i ∧ v9 = .string (ofL B) ∧ Whole B (((cts l).take i).map clean) ∧ B.length ≤ i * 15616 ∧ Kept NoF w wr) (fun _ v10 _ => l.length + 1 - (intOf v10).toNat)
  case atStart => exact ⟨0, [], Nat.zero_le _, rfl, rfl, Whole.nil, Nat.zero_le _, HK.out⟩
  case round =>
    obtain ⟨i, B, hi, rfl, rfl, hwh, hbl, hkr⟩ := hrel
    clear HK
    have HWH := Lib.hid hwh; clear hwh
    have HBL := Lib.hid hbl; clear hbl
    have HK := Lib.hid hkr; clear hkr
    by_cases hil : i ≤ l.length
    · go_wp2_with fail
      go_loopw [9, 11] (fun v9 v11 wq => ∃ (k : Nat) (B2 : List UInt8), k ≤ ns.length ∧ v11 = .int .i64 k ∧ v9 = .string (ofL B2) ∧ Whole B2 (((cts l).take i).map clean) ∧ B2.length ≤ i * 15616 + k * 256 ∧ Kept NoF w wq) (fun _ v11 _ => ns.length - (intOf v11).toNat)
      case atStart => exact ⟨0, B, Nat.zero_le _, rfl, rfl, HWH.out, by have := HBL.out; omega, HK.out⟩
      case round =>
        obtain ⟨k, B2, hk, rfl, rfl, hwh2, hbl2, hkr2⟩ := hrel
        have HWH2 := Lib.hid hwh2; clear hwh2
        have HBL2 := Lib.hid hbl2; clear hbl2
        have HK2 := Lib.hid hkr2; clear hkr2
        by_cases hkl : k < ns.length
        · obtain ⟨q, hq⟩ : ∃ q, ns[k]? = some q := ⟨_, List.getElem?_eq_getElem hkl⟩
          obtain ⟨adn, rfl, hadn, n0⟩ := one_cell (HN.out.kept HK2.out (fun _ _ z => z)) (by omega) k q hq
          have hqs := HNS.out q (List.mem_of_getElem? hq)
          have HQ := Lib.hid hq; clear hq
          by_cases hkt : k < ts.length
          · obtain ⟨t, ht⟩ : ∃ t, ts[k]? = some t := ⟨_, List.getElem?_eq_getElem hkt⟩
            obtain ⟨adt, rfl, hadt, t0⟩ := one_cell (HT.out.kept HK2.out (fun _ _ z => z)) (by omega) k t ht
            obtain ⟨htl0, htl1⟩ := HTS.out t (List.mem_of_getElem? ht)
            clear ht
            go_wp2_with fail
            any_goals (first | exact ⟨⟨k + 1, B2, by omega, by go_num, rfl, HWH2.out, by have := HBL2.out; omega, HK2.out⟩, by simp [intOf]; omega⟩ | skip)
            have hq2 : q.size ≤ 255 := by omega
            have hcv := conv_len q.size hq2
            have hns0 : ∀ W, Kept NoF wr W → W.cell? (adn.add k) = some (.string q) := fun W hW => by
              obtain ⟨ad', h0, _, h2⟩ := one_cell (HN.out.kept (HK2.out.then hW) (fun _ _ z => z)) (by omega) k q HQ.out
              injection h0 with h0
              subst h0
              exact h2
            have hns1 : (wr.alloc (.cells #[.int .u8 (q.size : Int)] 5)).cell? (adn.add k) = some (.string q) := hns0 _ (by (repeat' (first | with_reducible exact Kept.refl _ _ | with_reducible refine Kept.put ?_ ?_ | with_reducible refine Kept.drewN ?_ _ | with_reducible refine Kept.drew ?_ | with_reducible refine Kept.alloc ?_ _ | (fail) | (right; simp; done))))
            clear hns0
            have hcvs : (convert 34 9 (.slice (some ⟨wr.heap.size, 0, none⟩) 1 1)).run Try.prog (wr.alloc (.cells #[.int .u8 (q.size : Int)] 5)).drew = .ok (.string ⟨#[UInt8.ofNat q.size]⟩) (wr.alloc (.cells #[.int .u8 (q.size : Int)] 5)).drew := by
              have h := conv_one (wr.alloc (.cells #[.int .u8 (q.size : Int)] 5)).drew wr.heap.size q.size 1 (by omega) (by omega) ((Has.new wr 5 #[.int .u8 (q.size : Int)]).drew.cell 0)
              simpa using h
            have e1 : (⟨#[UInt8.ofNat q.size]⟩ : ByteArray) = ofL [UInt8.ofNat q.size] := rfl
            have hP : ∃ P : ByteArray, (⟨#[UInt8.ofNat q.size]⟩ : ByteArray) ++ q = P ∧ bl P = UInt8.ofNat q.size :: bl q ∧ P.size ≤ 256 := ⟨_, rfl, by rw [e1, ofL_append_bl, bl_ofL]; rfl, by rw [e1, ofL_append_bl, ofL_size]; simp only [List.length_append, List.length_cons, List.length_nil, size_bl]; omega⟩
            obtain ⟨P, hP1, hP2, hP3⟩ := hP
            have hsum : ¬ 9223372036854775807 < (⟨#[UInt8.ofNat q.size]⟩ : ByteArray).size + q.size := by rw [e1, ofL_size]; simp only [List.length_cons, List.length_nil]; omega
            have hsum1 : ¬ 9223372036854775807 < 1 + q.size := by omega
            have hsum2 : ¬ 9223372036854775807 < (ofL B2).size + P.size := by rw [ofL_size]; have := HBL2.out; omega
            have hnoise : ofS (bl P) = [] → Whole (B2 ++ bl P) (((cts l).take i).map clean) := fun h => by
              rw [hP2] at h ⊢
              have h2 := HWH2.out.append (Whole.noise (by rw [size_bl]; exact ofNat_len hq2) h)
              rwa [List.append_nil] at h2
            have hPl : (bl P).length ≤ 256 := by rw [size_bl]; exact hP3
            have HNO := Lib.hid (And.intro hnoise hPl); clear hnoise hPl hP2 e1
            have HP1 := Lib.hid hP1
            have hrof := fun W => rof_any W P (by omega)
            unfold OfPost at hrof
            have HROF := Lib.hid hrof; clear hrof
            clear hP3
            go_region_law (fail)
            all_goals
              go_wp2_with fail
              refine (HROF.out _).mono ?_
              rintro e w5 ⟨B5, c5, lp, rfl, hev5, hm5, hk5⟩
              have hk5' := Kept.then (a := wr) (by (repeat' (first | with_reducible exact Kept.refl _ _ | with_reducible refine Kept.put ?_ ?_ | with_reducible refine Kept.drewN ?_ _ | with_reducible refine Kept.drew ?_ | with_reducible refine Kept.alloc ?_ _ | (fail) | (right; simp; done)))) hk5
              have hkw := HK2.out.then hk5'
              have HK5 := Lib.hid hkw; clear hkw hk5 hk5' hev5
              by_cases hlp : lp.length = 0
              · have hnil : ofS (bl P) = [] := by rw [← hm5, List.length_eq_zero_iff.1 hlp]; rfl
                have hw := HNO.out.1 hnil
                have HW := Lib.hid hw; clear hw hnil hm5
                rw [hlp]
                go_wp2_with fail
                go_roundw
                case rel => exact ⟨k + 1, B2 ++ bl P, by omega, by go_num, by rw [ofL_append_bl], HW.out, by rw [List.length_append]; have := HBL2.out; have := HNO.out.2; omega, HK5.out⟩
                case measure => simp [intOf]; omega
              · have q1 : ((lp.length : Int) == 0) = false := by simpa using hlp
                clear hlp hm5
                go_wp2_with fail
                go_roundw
                case rel => exact ⟨k + 1, B2, by omega, by go_num, rfl, HWH2.out, by have := HBL2.out; omega, HK5.out⟩
                case measure => simp [intOf]; omega
          · by_cases hi0 : i = 0
            rotate_left
            · have q0 : ((0 : Int) == (i : Int)) = false := by simp; omega
              clear hi0
              go_wp2_with fail
              exact ⟨⟨k + 1, B2, by omega, by go_num, rfl, HWH2.out, by have := HBL2.out; omega, HK2.out⟩, by simp [intOf]; omega⟩
            have q0 : ((0 : Int) == (i : Int)) = true := by simp [hi0]
            clear hi0
            go_wp2_with fail
            any_goals (first | exact ⟨⟨k + 1, B2, by omega, by go_num, rfl, HWH2.out, by have := HBL2.out; omega, HK2.out⟩, by simp [intOf]; omega⟩ | skip)
            have hq2 : q.size ≤ 255 := by omega
            have hcv := conv_len q.size hq2
            have hns0 : ∀ W, Kept NoF wr W → W.cell? (adn.add k) = some (.string q) := fun W hW => by
              obtain ⟨ad', h0, _, h2⟩ := one_cell (HN.out.kept (HK2.out.then hW) (fun _ _ z => z)) (by omega) k q HQ.out
              injection h0 with h0
              subst h0
              exact h2
            have hns1 : (wr.alloc (.cells #[.int .u8 (q.size : Int)] 5)).cell? (adn.add k) = some (.string q) := hns0 _ (by (repeat' (first | with_reducible exact Kept.refl _ _ | with_reducible refine Kept.put ?_ ?_ | with_reducible refine Kept.drewN ?_ _ | with_reducible refine Kept.drew ?_ | with_reducible refine Kept.alloc ?_ _ | (fail) | (right; simp; done))))
            clear hns0
            have hcvs : (convert 34 9 (.slice (some ⟨wr.heap.size, 0, none⟩) 1 1)).run Try.prog (wr.alloc (.cells #[.int .u8 (q.size : Int)] 5)).drew = .ok (.string ⟨#[UInt8.ofNat q.size]⟩) (wr.alloc (.cells #[.int .u8 (q.size : Int)] 5)).drew := by
              have h := conv_one (wr.alloc (.cells #[.int .u8 (q.size : Int)] 5)).drew wr.heap.size q.size 1 (by omega) (by omega) ((Has.new wr 5 #[.int .u8 (q.size : Int)]).drew.cell 0)
              simpa using h
            have e1 : (⟨#[UInt8.ofNat q.size]⟩ : ByteArray) = ofL [UInt8.ofNat q.size] := rfl
            have hP : ∃ P : ByteArray, (⟨#[UInt8.ofNat q.size]⟩ : ByteArray) ++ q = P ∧ bl P = UInt8.ofNat q.size :: bl q ∧ P.size ≤ 256 := ⟨_, rfl, by rw [e1, ofL_append_bl, bl_ofL]; rfl, by rw [e1, ofL_append_bl, ofL_size]; simp only [List.length_append, List.length_cons, List.length_nil, size_bl]; omega⟩
            obtain ⟨P, hP1, hP2, hP3⟩ := hP
            have hsum : ¬ 9223372036854775807 < (⟨#[UInt8.ofNat q.size]⟩ : ByteArray).size + q.size := by rw [e1, ofL_size]; simp only [List.length_cons, List.length_nil]; omega
            have hsum1 : ¬ 9223372036854775807 < 1 + q.size := by omega
            have hsum2 : ¬ 9223372036854775807 < (ofL B2).size + P.size := by rw [ofL_size]; have := HBL2.out; omega
            have hnoise : ofS (bl P) = [] → Whole (B2 ++ bl P) (((cts l).take i).map clean) := fun h => by
              rw [hP2] at h ⊢
              have h2 := HWH2.out.append (Whole.noise (by rw [size_bl]; exact ofNat_len hq2) h)
              rwa [List.append_nil] at h2
            have hPl : (bl P).length ≤ 256 := by rw [size_bl]; exact hP3
            have HNO := Lib.hid (And.intro hnoise hPl); clear hnoise hPl hP2 e1
            have HP1 := Lib.hid hP1
            have hrof := fun W => rof_any W P (by omega)
            unfold OfPost at hrof
            have HROF := Lib.hid hrof; clear hrof
            clear hP3
            go_region_law (fail)
            all_goals
              go_wp2_with fail
              refine (HROF.out _).mono ?_
              rintro e w5 ⟨B5, c5, lp, rfl, hev5, hm5, hk5⟩
              have hk5' := Kept.then (a := wr) (by (repeat' (first | with_reducible exact Kept.refl _ _ | with_reducible refine Kept.put ?_ ?_ | with_reducible refine Kept.drewN ?_ _ | with_reducible refine Kept.drew ?_ | with_reducible refine Kept.alloc ?_ _ | (fail) | (right; simp; done)))) hk5
              have hkw := HK2.out.then hk5'
              have HK5 := Lib.hid hkw; clear hkw hk5 hk5' hev5
              by_cases hlp : lp.length = 0
              · have hnil : ofS (bl P) = [] := by rw [← hm5, List.length_eq_zero_iff.1 hlp]; rfl
                have hw := HNO.out.1 hnil
                have HW := Lib.hid hw; clear hw hnil hm5
                rw [hlp]
                go_wp2_with fail
                go_roundw
                case rel => exact ⟨k + 1, B2 ++ bl P, by omega, by go_num, by rw [ofL_append_bl], HW.out, by rw [List.length_append]; have := HBL2.out; have := HNO.out.2; omega, HK5.out⟩
                case measure => simp [intOf]; omega
              · have q1 : ((lp.length : Int) == 0) = false := by simpa using hlp
                clear hlp hm5
                go_wp2_with fail
                go_roundw
                case rel => exact ⟨k + 1, B2, by omega, by go_num, rfl, HWH2.out, by have := HBL2.out; omega, HK5.out⟩
                case measure => simp [intOf]; omega
        · obtain rfl : k = ns.length := by omega
          have hB2 : B2.length ≤ i * 15616 + 15360 := by have := HBL2.out; omega
          by_cases hil2 : i < l.length
          · obtain ⟨ev, hev⟩ : ∃ e, l[i]? = some e := ⟨_, List.getElem?_eq_getElem hil2⟩
            have hmem := List.mem_of_getElem? hev
            obtain ⟨o1, o2, o3, o4⟩ := HONE.out ev hmem
            have htm := (HKS.out ev hmem).2.2.2
            obtain ⟨ad, rfl, hci, hsl⟩ := one_slice (HL.out.kept HK2.out (fun _ _ z => z)) hcap i ev hev hil2
            have hput := put_any wr (some (ad.add (i * 10))) (c - i) [ev] hsl (fun e he => by simp at he; rw [he]; exact (HKS.out ev hmem).kept HK2.out) (fun e he => by simp at he; rw [he]; exact HWT.out ev hmem) (by simp)
            unfold PutPost at hput
            rw [cts_map, List.map_cons, List.map_nil, o1, o2] at hput
            have hw := HWH2.out.append (Whole.step o4 htm)
            rw [← cts_take hev] at hw
            obtain ⟨O, hO⟩ : ∃ O, byteE ev.x = O := ⟨_, rfl⟩
            rw [hO] at hput hw o3
            have HW := Lib.hid (And.intro hw (And.intro o3 hB2)); clear hw o3 hB2
            have HPT := Lib.hid hput; clear hput hsl o1 o2 o4 htm hmem hev hO
            have hsum2 : ¬ 9223372036854775807 < (ofL B2).size + (ofL O).size := by rw [ofL_size, ofL_size]; have := HW.out.2; omega
            go_wp2_with fail
            refine HPT.out.mono ?_
            rintro e w5 ⟨rfl, hk5⟩
            have hkw := HK2.out.then hk5
            have HK5 := Lib.hid hkw; clear hkw hk5
            go_wp2_with fail
            go_roundw
            case rel => exact ⟨i + 1, B2 ++ O, by omega, by go_num, by rw [ofL_append], HW.out.1, by rw [List.length_append]; have := HW.out.2; omega, HK5.out⟩
            case measure => simp [intOf]; omega
          · have hii : i = l.length := by omega
            have htk : ((cts l).take (i + 1)).map clean = ((cts l).take i).map clean := by
              rw [List.take_of_length_le (by rw [cts_len]; omega), List.take_of_length_le (by rw [cts_len]; omega)]
            have HTK := Lib.hid (And.intro htk hB2); clear htk hB2
            go_wp2_with fail
            go_roundw
            case rel => exact ⟨i + 1, B2, by omega, by go_num, rfl, by rw [HTK.out.1]; exact HWH2.out, by have := HTK.out.2; omega, HK2.out⟩
            case measure => simp [intOf]; omega
    · obtain rfl : i = l.length + 1 := by omega
      have hwh := HWH.out []
      rw [List.append_nil, List.take_of_length_le (by rw [cts_len]; omega), show ofS [] = [] from by unfold ofS; rw [pcs_nil]; rfl, List.append_nil] at hwh
      obtain ⟨t1, t2, t3⟩ := HTH2.out
      have hS : ofS (bl S) = (cts l).map clean := by rw [t1, bl_ofL, t2]
      have hB : ofS (bl (ofL B)) = (cts l).map clean := by rw [bl_ofL, hwh]
      have hof1 := fun W => of_any W (ofL B) (by rw [ofL_size]; have := HBL.out; omega)
      have hof2 := fun W => of_any W S (by rw [t1, ofL_size]; omega)
      unfold OfPost at hof1 hof2
      have hbz : (bl (ofL B)).length ≤ 1000000 := by rw [bl_ofL]; have := HBL.out; omega
      have HOF1 := Lib.hid hof1; clear hof1
      have HOF2 := Lib.hid hof2; clear hof2
      have HSB := Lib.hid (And.intro hS (And.intro hB hbz)); clear hS hB hbz t1 t2 t3 hwh
      obtain ⟨X, hX⟩ : ∃ X, ofL B = X := ⟨_, rfl⟩
      rw [hX] at HOF1 HSB ⊢
      clear hX
      go_wp2_with fail
      refine (HOF1.out _).mono ?_
      rintro e w5 ⟨B1, c1, l1, rfl, hev1, hm1, hk5⟩
      have hk5' := HK.out.then hk5
      have HK5 := Lib.hid hk5'; clear hk5' hk5
      have HE1 := Lib.hid (And.intro hev1 hm1); clear hev1 hm1
      go_wp2_with fail
      refine (HOF2.out _).mono ?_
      rintro e w6 ⟨B2, c2, l2, rfl, hev2, hm2, hk6⟩
      obtain ⟨f1, f2, f3, f4, f5⟩ := evl_facts (HE1.out.1.kept hk6) HE1.out.2
      obtain ⟨g1, g2, g3, g4, g5⟩ := evl_facts hev2 hm2
      have hsame := rsame_any w6 B1 B2 c1 c2 l1 l2 f1 g1 f2 g2 (by have := HSB.out.2.2; omega) (fun e he => (f3 e he).2.1)
      have hst : sameS l1 l2 = true := decide_eq_true (by rw [xs_map, xs_map, HE1.out.2, hm2, HSB.out.1, HSB.out.2.1])
      rw [hst] at hsame
      have hk6' := HK5.out.then hk6
      have HK6 := Lib.hid hk6'; clear hk6' hk6 hst f1 f2 f3 f4 f5 g1 g2 g3 g4 g5 hm2 hev2
      have HS := Lib.hid hsame; clear hsame
      go_wp2_with fail
      refine HS.out.mono ?_
      rintro e w7 ⟨rfl, hk7⟩
      have HK7 := Lib.hid (HK6.out.then hk7); clear hk7
      go_wp2_with fail
      refine (HA.out _).mono ?_
      rintro e w8 ⟨rfl, hk8⟩
      have HK8 := Lib.hid (HK7.out.then hk8); clear hk8
      go_wp2
      go_ret
      exact ⟨rfl, HFIN.out _ HK8.out⟩
end Scr
end Go.Proofs.Ytfobbocaodppeaa

/- story.Holds, story.Add. -/
import Derived.Test.YtnmlemciiigjcaaEnt3
set_option linter.unusedSimpArgs false
set_option linter.unusedVariables false
namespace Go.Proofs.Ytnmlemciiigjcaa
open Go.RowKit
set_option maxRecDepth 100000
namespace Ent
open Ops Vn
def holdsL (w log : List EntR) : Int := if log.length < w.length then 7 else if agreeB w log = true then 0 else 18
theorem holds_any (w : World) (A B : Option Addr) (c d : Nat) (l m : List EntR) (hl : Src w 4 A l.length (ecells l)) (hm : Src w 4 B m.length (ecells m)) (hlen : l.length ≤ 1000000) (hmlen : m.length ≤ 1000000000000) (hc : l.length ≤ c) (hd : m.length ≤ d) :
    Calls Try.prog 33 #[.slice A l.length c, .slice B m.length d] w fun e w' => e = .returned (.int .i64 (holdsL l m)) ∧ Kept NoF w w' := by
  unfold holdsL
  have hag := agree_any w A B c d l m hl hm hlen hmlen hc hd
  by_cases h1 : m.length < l.length
  · rw [if_pos h1]
    clear hag hl hm
    go_enter Try.func33, Try.ntmps33
    go_wp2
    go_ret
    exact ⟨rfl, Kept.refl _ _⟩
  rw [if_neg h1]
  obtain ⟨r, hr⟩ : ∃ r, agreeB l m = r := ⟨_, rfl⟩
  rw [hr] at hag ⊢
  have HAG := Lib.hid hag; clear hag hr hl hm
  cases r
  · rw [if_neg (by simp)]
    go_enter Try.func33, Try.ntmps33
    go_wp2_with fail
    refine HAG.out.mono ?_
    rintro e w2 ⟨rfl, hk⟩
    have HK := Lib.hid hk; clear hk
    go_wp2
    go_ret
    exact ⟨rfl, HK.out⟩
  · rw [if_pos rfl]
    go_enter Try.func33, Try.ntmps33
    go_wp2_with fail
    refine HAG.out.mono ?_
    rintro e w2 ⟨rfl, hk⟩
    have HK := Lib.hid hk; clear hk
    go_wp2
    go_ret
    exact ⟨rfl, HK.out⟩
def addN (log : List EntR) (st : Int) : Nat := min (max st 0).toNat (stampL log)
theorem addN_le (log : List EntR) (st : Int) : addN log st ≤ log.length := by
  have := stampL_le log
  unfold addN
  omega
def grown (w log : List EntR) (i : Nat) : List EntR := w ++ ((log.take i).drop w.length).map bareE
theorem grown_small {w log : List EntR} {i : Nat} (h : i ≤ w.length) : grown w log i = w := by
  unfold grown
  rw [List.drop_of_length_le (by rw [List.length_take]; omega)]
  simp
theorem grown_succ {w log : List EntR} {i : Nat} {e : EntR} (he : log[i]? = some e) (h : w.length ≤ i) : grown w log (i + 1) = grown w log i ++ [bareE e] := by
  unfold grown
  have hi := (List.getElem?_eq_some_iff.1 he).1
  rw [List.take_add_one, he, List.drop_append_of_le_length (by rw [List.length_take]; omega)]
  simp
theorem grown_len (w log : List EntR) (i : Nat) : (grown w log i).length ≤ w.length + i := by
  unfold grown
  simp
  omega
def addL (w log : List EntR) (st : Int) : List EntR × Int := if agreeB w (log.take (addN log st)) = true then (grown w log (addN log st), 0) else ([], 18)
def AddPost (w : World) (r : List EntR × Int) (e : Ending) (w' : World) : Prop :=
  ∃ A c, e = .returned (.tuple #[.slice A r.1.length c, .int .i64 r.2]) ∧ NewSl 47 4 w.heap.size w' A r.1.length c (ecells r.1) ∧ Kept NoF w w'
set_option maxHeartbeats 4000000 in
theorem add_any (w : World) (A B : Option Addr) (c d : Nat) (l m : List EntR) (st : Int) (hl : Src w 4 A l.length (ecells l)) (hm : Src w 4 B m.length (ecells m)) (hlen : l.length ≤ 1000000) (hmlen : m.length ≤ 1000000) (hc : l.length ≤ c) (hd : m.length ≤ d) :
    Calls Try.prog 30 #[.slice A l.length c, .slice B m.length d, .int .i64 st] w (AddPost w (addL l m st)) := by
  have hst := stamped_any w B d m hm (by omega)
  obtain ⟨k, hk⟩ : ∃ k, (max st 0).toNat = k := ⟨_, rfl⟩
  obtain ⟨s, hs⟩ : ∃ s, stampL m = s := ⟨_, rfl⟩
  obtain ⟨n, hn⟩ : ∃ n, addN m st = n := ⟨_, rfl⟩
  have hnl := addN_le m st
  have hnk : n = min k s := by rw [← hn, ← hk, ← hs]; rfl
  rw [hs] at hst
  rw [hn] at hnl
  have hmx : ∀ W ts t, (Builtin.max_ ts t #[.int .i64 st, .int .i64 0]).run Try.prog W = .ok (.int .i64 k) W := by
    intro W ts t
    rw [run_max_int2, ← hk]
    split <;> (congr 2; omega)
  have hmn : ∀ W ts t, (Builtin.min_ ts t #[.int .i64 (k : Int), .int .i64 (s : Int)]).run Try.prog W = .ok (.int .i64 n) W := by
    intro W ts t
    rw [run_min_int2, hnk]
    split <;> (congr 2; omega)
  have hdn : (n : Int) ≤ d := by omega
  have h0 : (0 : Int) ≤ n := by omega
  have hm2 := Src.takeE hm hnl
  have htl : (m.take n).length = n := by rw [List.length_take]; omega
  have hag := fun W (hW : Kept NoF w W) => agree_any W A B c d l (m.take n) (hl.kept hW (fun _ _ x => x)) (hm2.kept hW (fun _ _ x => x)) hlen (by omega) hc (by omega)
  have hcl := fun W (hW : Kept NoF w W) => clone_any W A c l (hl.kept hW (fun _ _ x => x)) hlen
  rw [htl] at hag
  have hadd : addL l m st = if agreeB l (m.take n) = true then (grown l m n, 0) else ([], 18) := by unfold addL; rw [hn]
  rw [hadd]
  obtain ⟨r, hr⟩ : ∃ r, agreeB l (m.take n) = r := ⟨_, rfl⟩
  rw [hr] at hag ⊢
  clear hadd hr hk hs hn hnk hm2 htl
  have HST := Lib.hid hst; clear hst
  have HAG := Lib.hid hag; clear hag
  have HCL := Lib.hid hcl; clear hcl
  have HM := Lib.hid hm; clear hm hl
  cases r
  · rw [if_neg (by simp)]
    clear HCL HM
    go_enter Try.func30, Try.ntmps30
    go_wp2_with fail
    refine HST.out.mono ?_
    rintro e w2 ⟨rfl, hk⟩
    have HK := Lib.hid hk; clear hk
    go_wp2_with fail
    refine (HAG.out _ HK.out).mono ?_
    rintro e w3 ⟨rfl, hk⟩
    have HK2 := Lib.hid (HK.out.then hk); clear hk HK
    go_wp2
    go_ret2
    exact ⟨none, 0, rfl, ⟨⟨rfl, .inl ⟨rfl, rfl⟩⟩, fun k hk => by cases hk⟩, HK2.out⟩
  · rw [if_pos rfl]
    go_enter Try.func30, Try.ntmps30
    go_wp2_with fail
    refine HST.out.mono ?_
    rintro e w2 ⟨rfl, hk⟩
    have HK := Lib.hid hk; clear hk
    go_wp2_with fail
    refine (HAG.out _ HK.out).mono ?_
    rintro e w3 ⟨rfl, hk⟩
    have HK2 := Lib.hid (HK.out.then hk); clear hk HK
    go_wp2_with fail
    refine (HCL.out _ HK2.out).mono ?_
    rintro e w4 ⟨A1, c1, rfl, hrow, hk⟩
    have hrow2 : NewSl 47 4 w.heap.size w4 A1 (grown l m 0).length c1 (ecells (grown l m 0)) := by
      rw [grown_small (Nat.zero_le _)]
      exact ⟨hrow.1, fun k hk => Nat.le_trans HK2.out.size (hrow.2 k hk)⟩
    have hg0 : (grown l m 0).length = l.length := by rw [grown_small (Nat.zero_le _)]
    have HROW0 := Lib.hid hrow2; clear hrow2 hrow
    have HG0 := Lib.hid hg0; clear hg0
    have HK4 := Lib.hid (HK2.out.then hk); clear hk HK2
    go_wp2_with fail
    go_loopw [8, 25] (fun v8 v25 wr => ∃ (i : Nat) (A' : Option Addr) (c' : Nat), i ≤ n ∧ v25 = .int .i64 i ∧ v8 = .slice A' (grown l m i).length c' ∧ NewSl 47 4 w.heap.size wr A' (grown l m i).length c' (ecells (grown l m i)) ∧ Kept NoF w wr) (fun _ v25 _ => n - (intOf v25).toNat)
    case atStart => exact ⟨0, A1, c1, Nat.zero_le _, rfl, by rw [HG0.out], HROW0.out, HK4.out⟩
    case round =>
      obtain ⟨i, A5, c5, hi, rfl, rfl, hrow, hk⟩ := hrel
      have HROW := Lib.hid hrow; clear hrow
      have HK := Lib.hid hk; clear hk HK4 HROW0
      by_cases hil : i < n
      · by_cases hge : l.length ≤ i
        · obtain ⟨e, he⟩ : ∃ e, m[i]? = some e := ⟨_, List.getElem?_eq_getElem (by omega)⟩
          obtain ⟨ad, rfl, hlt, e0, e1, e2, e3⟩ := ent_cells (HM.out.kept HK.out (fun _ _ x => x)) (by omega) i e he
          have hsu := grown_succ (w := l) he hge
          have hgl := grown_len l m i
          have HSU := Lib.hid hsu; clear hsu he
          obtain ⟨cur, hcur⟩ : ∃ cur, grown l m i = cur := ⟨_, rfl⟩
          rw [hcur] at HROW HSU hgl
          rw [hcur]
          clear hcur
          have hb := fun W => bare_any W e
          have HB := Lib.hid hb; clear hb
          obtain ⟨cl, req, eA, ec, el, ts⟩ := e
          dsimp only [eagg, bareE] at e0 e1 e2 e3 HB HSU
          have hm1 : cur.length + 1 ≤ maxLen := by unfold maxLen; omega
          have hm2 : (cur.length + 1) * 48 ≤ 140737488355328 := by omega
          have HM1 := Lib.hid hm1; clear hm1
          have HM2 := Lib.hid hm2; clear hm2
          go_wp2_with fail
          refine (HB.out _).mono ?_
          rintro e w5 ⟨rfl, hk⟩
          have hro5 := HROW.out.kept hk
          have hk5 := HK.out.then hk
          have hsz5 := hk5.size
          have HRO5 := Lib.hid (And.intro hro5 (And.intro hk5 hsz5)); clear hro5 hk5 hsz5 hk
          go_wp2_with (at_builtin; refine list_append_src elemEnt (.tmp 32) (.tmp 38) rfl rfl (Value.slice A5 cur.length c5) rfl ((HRO5.out.1.kept ((Kept.refl _ _).alloc _)).1) 1 rfl (Src.of_has (m := 1) (cs := #[.int .i64 cl, .int .i64 req, .slice none 0 0, .int .u64 ts]) (Has.new_at _ 47 _ (by simp)) rfl) (by intro u hu; simp at hu; rcases hu with rfl | rfl | rfl | rfl <;> rfl) HM1.out HM2.out ?_; intro A6 c6 w6 ho6 hg6 ha6)
          have hn6 : NewSl 47 4 w.heap.size w6 A6 (grown l m (i + 1)).length c6 (ecells (grown l m (i + 1))) := by
            rw [HSU.out, ecells_snoc, List.length_append]
            exact HRO5.out.1.snoc (by simp; have := HRO5.out.2.2; omega) ho6 ha6
          have hk6 : Kept NoF w w6 := (HRO5.out.2.1.alloc _).grown hg6 (fun k hk => .inr (HRO5.out.1.2 k hk))
          have hgl6 : (grown l m (i + 1)).length = cur.length + 1 := by rw [HSU.out, List.length_append]; rfl
          clear ho6 hg6 ha6
          have HN6 := Lib.hid (And.intro hn6 (And.intro hk6 hgl6)); clear hn6 hk6 hgl6
          go_wp2
          go_roundw
          case rel => exact ⟨i + 1, A6, c6, by omega, by go_num, by rw [HN6.out.2.2], HN6.out.1, HN6.out.2.1⟩
          case measure => simp [intOf]; omega
        · have hg1 : grown l m (i + 1) = grown l m i := by rw [grown_small (by omega), grown_small (by omega)]
          have HG1 := Lib.hid hg1; clear hg1
          have hge2 : ¬ (l.length : Int) ≤ i := by omega
          obtain ⟨cur, hcur⟩ : ∃ cur, grown l m i = cur := ⟨_, rfl⟩
          rw [hcur] at HROW HG1
          rw [hcur]
          clear hcur
          go_wp2
          go_roundw
          case rel => exact ⟨i + 1, A5, c5, by omega, by go_num, by rw [HG1.out], by rw [HG1.out]; exact HROW.out, HK.out⟩
          case measure => simp [intOf]; omega
      · obtain rfl : i = n := by omega
        obtain ⟨cur, hcur⟩ : ∃ cur, grown l m i = cur := ⟨_, rfl⟩
        rw [hcur] at HROW
        rw [hcur]
        have HCUR := Lib.hid hcur; clear hcur
        go_wp2
        go_ret2
        exact ⟨A5, c5, by rw [HCUR.out]; rfl, by rw [HCUR.out]; exact HROW.out, HK.out⟩
end Ent
end Go.Proofs.Ytnmlemciiigjcaa

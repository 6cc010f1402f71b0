
/- The program's configurations: slices.IndexFunc, ContainsFunc, Equal at members; conf.one, conf.Check. -/
import Derived.Test.YtffnaabnbimhbaaConf4
import Derived.StillTailTactics
import Derived.Shelf.Abstract
set_option linter.unusedSimpArgs false
set_option linter.unusedVariables false
namespace Go.Proofs.Ytffnaabnbimhbaa
open Go.RowKit Go.Shelf
set_option maxRecDepth 100000
namespace Plan
/-- A function value that tells of each member of l whether p holds, and turns nothing old. -/
def Tells (w : World) (g : Nat) (lb : Array Value) (l : List Mem) (p : Mem → Bool) : Prop :=
  ∀ W m, Kept NoF w W → m ∈ l → Calls Try.prog g (#[magg m] ++ lb) W fun e w' => e = .returned (.bool (p m)) ∧ Kept NoF W w'
theorem Tells.kept {w w' : World} {g : Nat} {lb : Array Value} {l : List Mem} {p : Mem → Bool} (h : Tells w g lb l p) (hk : Kept NoF w w') : Tells w' g lb l p := fun W m hW hm => h W m (hk.then hW) hm
def anyP (p : Mem → Bool) (l : List Mem) : Bool := l.any p

set_option maxHeartbeats 1000000 in
theorem index_any (w : World) (A : Option Addr) (c : Nat) (l : List Mem) (p : Mem → Bool) (g : Nat) (lb : Array Value) (hl : Src w 2 A l.length (mcells l)) (hlen : l.length ≤ 1000000)
    (eg : ∀ args w, (callFunc g args).run Try.prog w = .ok (.enter g args) w) (hp : Tells w g lb l p) :
    Calls Try.prog 45 #[.slice A l.length c, .func (.func g) #[] lb] w fun e w' => (∃ n : Int, e = .returned (.int .i64 n) ∧ (0 ≤ n ↔ anyP p l = true)) ∧ Kept NoF w w' := by
  have HL := Lib.hid hl; clear hl
  have HP := Lib.hid hp; clear hp
  go_enter Try.func45, Try.ntmps45
  go_wp2_with fail
  go_loopw [8] (fun v8 wr => ∃ i : Nat, i ≤ l.length ∧ v8 = .int .i64 i ∧ Kept NoF w wr ∧ anyP p l = anyP p (l.drop i)) (fun v8 _ => l.length - (intOf v8).toNat)
  case atStart => exact ⟨0, Nat.zero_le _, rfl, Kept.refl _ _, rfl⟩
  case round =>
    obtain ⟨i, hi, rfl, hk, he⟩ := hrel
    have HK := Lib.hid hk; clear hk
    have HE := Lib.hid he; clear he
    by_cases hil : i < l.length
    · obtain ⟨m, hm⟩ : ∃ m, l[i]? = some m := ⟨_, List.getElem?_eq_getElem hil⟩
      obtain ⟨ad, hA, had, d0, d1⟩ := mem_cells (HL.out.kept HK.out (fun _ _ x => x)) (by omega) i m hm
      subst hA
      have hcall := HP.out wr m HK.out (List.mem_of_getElem? hm)
      have hs : anyP p (l.drop i) = (p m || anyP p (l.drop (i + 1))) := by unfold anyP; rw [drop_cons hm, List.any_cons]
      obtain ⟨b, hb⟩ : ∃ b, p m = b := ⟨_, rfl⟩
      rw [hb] at hcall hs
      have HS := Lib.hid hs; clear hs hm hb
      obtain ⟨m1, m2⟩ := m
      unfold magg at hcall
      dsimp only at d0 d1 hcall
      have HC := Lib.hid hcall; clear hcall
      cases b
      · go_wp2_with fail
        refine HC.out.mono ?_
        rintro e w2 ⟨rfl, hk2⟩
        have hk3 := HK.out.then hk2
        have HK3 := Lib.hid hk3; clear hk3 hk2
        go_wp2
        go_roundw
        case rel => exact ⟨i + 1, by omega, by go_num, HK3.out, by rw [HE.out, HS.out]; rfl⟩
        case measure => simp [intOf]; omega
      · go_wp2_with fail
        refine HC.out.mono ?_
        rintro e w2 ⟨rfl, hk2⟩
        have hk3 := HK.out.then hk2
        have HK3 := Lib.hid hk3; clear hk3 hk2
        go_wp2
        go_ret
        exact ⟨⟨_, rfl, ⟨fun _ => by rw [HE.out, HS.out]; rfl, fun _ => by omega⟩⟩, HK3.out⟩
    · obtain rfl : i = l.length := by omega
      go_wp2
      go_ret
      exact ⟨⟨-1, rfl, ⟨fun h => by omega, fun h => by rw [HE.out, List.drop_length] at h; cases h⟩⟩, HK.out⟩

set_option maxHeartbeats 1000000 in
theorem contains_any (w : World) (A : Option Addr) (c : Nat) (l : List Mem) (p : Mem → Bool) (g : Nat) (lb : Array Value) (hl : Src w 2 A l.length (mcells l)) (hlen : l.length ≤ 1000000)
    (eg : ∀ args w, (callFunc g args).run Try.prog w = .ok (.enter g args) w) (hp : Tells w g lb l p) :
    Calls Try.prog 35 #[.slice A l.length c, .func (.func g) #[] lb] w fun e w' => e = .returned (.bool (anyP p l)) ∧ Kept NoF w w' := by
  have hi := index_any w A c l p g lb hl hlen eg hp
  have HI := Lib.hid hi; clear hi hl hp eg
  obtain ⟨b, hb⟩ : ∃ b, anyP p l = b := ⟨_, rfl⟩
  rw [hb] at HI ⊢
  clear hb
  go_enter Try.func35, Try.ntmps35
  go_wp2_with fail
  refine HI.out.mono ?_
  rintro e w2 ⟨⟨n, rfl, hn⟩, hk⟩
  have HN := Lib.hid hn; clear hn
  go_wp2
  go_ret
  refine ⟨?_, hk⟩
  have h := HN.out
  cases b
  · have : decide (0 ≤ n) = false := by rw [decide_eq_false_iff_not]; intro x; have := h.1 x; cases this
    rw [← this]; rfl
  · have : decide (0 ≤ n) = true := by rw [decide_eq_true_eq]; exact h.2 rfl
    rw [← this]; rfl

theorem twin_any (W : World) (B : Nat) (m x : Mem) (hB : Has W B 58 #[.int .i64 m.1, .int .i64 m.2]) :
    Calls Try.prog 44 #[magg x, .pointer (some ⟨B, 0, none⟩)] W fun e w' => e = .returned (.bool (decide (x.1 = m.1))) ∧ Kept NoF W w' := by
  have hlt := hB.lt
  have hne : B ≠ W.heap.size := by omega
  obtain ⟨x1, x2⟩ := x
  obtain ⟨m1, m2⟩ := m
  have c0 : ∀ o, (W.alloc o).cell? ⟨B, 0, none⟩ = some (.int .i64 m1) := fun o => (hB.alloc o).cell 0
  clear hB hlt
  unfold magg
  dsimp only
  go_enter Try.func44, Try.ntmps44
  go_wp2
  go_ret
  exact ⟨by by_cases h : x1 = m1 <;> simp [h], (Kept.refl _ _).alloc _⟩
theorem one_eg : ∀ args w, (callFunc 44 args).run Try.prog w = .ok (.enter 44 args) w := enters_of Try.func44 (by kernel_rfl) rfl

set_option maxHeartbeats 1000000 in
theorem one_any (w : World) (A : Option Addr) (c : Nat) (l : List Mem) (m : Mem) (hl : Src w 2 A l.length (mcells l)) (hlen : l.length ≤ 1000000) :
    Calls Try.prog 31 #[magg m, .slice A l.length c] w fun e w' => e = .returned (.int .i64 (oneE m l)) ∧ Kept NoF w w' := by
  have hone : oneE m l = if m.1 < 0 ∨ 4 ≤ m.1 then 1 else if m.2 < 1 ∨ 1073741824 < m.2 then 5 else if anyP (fun x => decide (x.1 = m.1)) l then 18 else 0 := rfl
  have hnb := Has.new w 58 #[.int .i64 m.1, .int .i64 m.2]
  have hco := contains_any (w.alloc (.cells #[.int .i64 m.1, .int .i64 m.2] 58)) A c l (fun x => decide (x.1 = m.1)) 44 #[.pointer (some ⟨w.heap.size, 0, none⟩)] (hl.kept ((Kept.refl NoF w).alloc _) (fun _ _ x => x)) hlen one_eg
    (fun W x hW _ => twin_any W w.heap.size m x (hnb.kept hW (fun x => x)))
  obtain ⟨b, hb⟩ : ∃ b, anyP (fun x => decide (x.1 = m.1)) l = b := ⟨_, rfl⟩
  rw [hb] at hco hone
  have HCO := Lib.hid hco; clear hco hnb hl hb
  obtain ⟨r, hr⟩ : ∃ r, oneE m l = r := ⟨_, rfl⟩
  rw [hr] at hone ⊢
  clear hr
  obtain ⟨m1, m2⟩ := m
  unfold magg
  dsimp only at hone HCO ⊢
  have HONE := Lib.hid hone; clear hone
  by_cases g1 : m1 < 0
  · have h1 := HONE.out
    rw [if_pos (.inl g1)] at h1
    subst h1
    go_enter Try.func31, Try.ntmps31
    go_wp2
    go_ret
    exact ⟨rfl, (Kept.refl _ _).alloc _⟩
  by_cases g2 : 4 ≤ m1
  · have h1 := HONE.out
    rw [if_pos (.inr g2)] at h1
    subst h1
    go_enter Try.func31, Try.ntmps31
    go_wp2
    go_ret
    exact ⟨rfl, (Kept.refl _ _).alloc _⟩
  by_cases g3 : m2 < 1
  · have h1 := HONE.out
    rw [if_neg (by omega), if_pos (.inl g3)] at h1
    subst h1
    go_enter Try.func31, Try.ntmps31
    go_wp2
    go_ret
    exact ⟨rfl, (Kept.refl _ _).alloc _⟩
  by_cases g4 : 1073741824 < m2
  · have h1 := HONE.out
    rw [if_neg (by omega), if_pos (.inr g4)] at h1
    subst h1
    go_enter Try.func31, Try.ntmps31
    go_wp2
    go_ret
    exact ⟨rfl, (Kept.refl _ _).alloc _⟩
  have h1 := HONE.out
  rw [if_neg (by omega), if_neg (by omega)] at h1
  cases b
  · rw [if_neg (by decide)] at h1
    subst h1
    go_enter Try.func31, Try.ntmps31
    go_wp2_with fail
    refine HCO.out.mono ?_
    rintro e w2 ⟨rfl, hk⟩
    go_wp2
    go_ret
    exact ⟨rfl, ((Kept.refl _ _).alloc _).then hk⟩
  · rw [if_pos rfl] at h1
    subst h1
    go_enter Try.func31, Try.ntmps31
    go_wp2_with fail
    refine HCO.out.mono ?_
    rintro e w2 ⟨rfl, hk⟩
    go_wp2
    go_ret
    exact ⟨rfl, ((Kept.refl _ _).alloc _).then hk⟩

set_option maxHeartbeats 2000000 in
theorem check_any (w : World) (ep fl : Int) (A : Option Addr) (c : Nat) (l : List Mem) (hl : Src w 2 A l.length (mcells l)) (hlen : l.length ≤ 1000000) (hcap : l.length ≤ c) (hcm : c ≤ 9223372036854775807) :
    Calls Try.prog 10 #[cagg ep A l.length c fl] w fun e w' => e = .returned (.int .i64 (chk ep l)) ∧ Kept NoF w w' := by
  have HL := Lib.hid hl; clear hl
  obtain ⟨r, hr⟩ : ∃ r, chk ep l = r := ⟨_, rfl⟩
  have HRR := Lib.hid hr
  rw [hr]
  clear hr
  by_cases h1 : ep < 1
  · have hr : r = 5 := by rw [← HRR.out]; unfold chk; rw [if_pos (.inl h1)]
    subst hr
    go_enter Try.func10, Try.ntmps10
    go_wp2
    go_ret
    exact ⟨rfl, (Kept.refl _ _).alloc _⟩
  by_cases h2 : 1073741824 < ep
  · have hr : r = 5 := by rw [← HRR.out]; unfold chk; rw [if_pos (.inr h2)]
    subst hr
    go_enter Try.func10, Try.ntmps10
    go_wp2
    go_ret
    exact ⟨rfl, (Kept.refl _ _).alloc _⟩
  by_cases h3 : l.length = 0
  · have hr : r = 7 := by rw [← HRR.out]; unfold chk; rw [if_neg (by omega), if_pos h3]
    subst hr
    rw [h3]
    clear h3
    go_enter Try.func10, Try.ntmps10
    go_wp2
    go_ret
    exact ⟨rfl, (Kept.refl _ _).alloc _⟩
  have h3' : ((l.length : Int) == 0) = false := by rw [beq_eq_false_iff_ne]; omega
  by_cases h4 : 4 < l.length
  · have hr : r = 6 := by rw [← HRR.out]; unfold chk; rw [if_neg (by omega), if_neg h3, if_pos h4]
    subst hr
    have h4' : (4 : Int) < l.length := by omega
    clear h3
    go_enter Try.func10, Try.ntmps10
    go_wp2
    go_ret
    exact ⟨rfl, (Kept.refl _ _).alloc _⟩
  have hr : r = chkFrom (l.take 0) (l.drop 0) := by rw [← HRR.out]; unfold chk; rw [if_neg (by omega), if_neg h3, if_neg h4]; rfl
  have HR := Lib.hid hr; clear hr
  have h4' : ¬ (4 : Int) < l.length := by omega
  have HN := Lib.hid (Has.new w 25 #[.int .i64 ep, .slice A l.length c, .int .u64 fl])
  clear h3 h4
  go_enter Try.func10, Try.ntmps10
  go_wp2_with fail
  go_loopw [28] (fun v28 wr => ∃ i : Nat, i ≤ l.length ∧ v28 = .int .i64 i ∧ Has wr w.heap.size 25 #[.int .i64 ep, .slice A l.length c, .int .u64 fl] ∧ Kept NoF w wr ∧ r = chkFrom (l.take i) (l.drop i)) (fun v28 _ => l.length - (intOf v28).toNat)
  case atStart => exact ⟨0, Nat.zero_le _, rfl, HN.out, (Kept.refl _ _).alloc _, HR.out⟩
  case round =>
    obtain ⟨i, hi, rfl, hh, hk, he⟩ := hrel
    have hlt0 := hh.lt
    have HH := Lib.hid hh; clear hh
    have HK := Lib.hid hk; clear hk
    have HE := Lib.hid he; clear he
    by_cases hil : i < l.length
    · obtain ⟨m, hm⟩ : ∃ m, l[i]? = some m := ⟨_, List.getElem?_eq_getElem hil⟩
      obtain ⟨ad, hA, had, d0, d1⟩ := mem_cells (HL.out.kept HK.out (fun _ _ x => x)) (by omega) i m hm
      subst hA
      obtain ⟨wo, hwo⟩ : ∃ wo : World, wo = wr := ⟨_, rfl⟩
      subst hwo
      have hic : i ≤ c := by omega
      have hlti : (l.take i).length = i := by rw [List.length_take]; omega
      have hone := fun W (hW : Kept NoF w W) => one_any W (some ad) c (l.take i) m (by
        have h1 := (HL.out.kept hW (fun _ _ x => x)).take (k := i) (by omega)
        rw [mcells_take] at h1
        rw [hlti]
        exact h1) (by omega)
      rw [hlti] at hone
      have hm' := fun h => chkFrom_step hm h
      have hm'' := fun h => chkFrom_stop hm h
      obtain ⟨r1, hr1⟩ : ∃ r1, oneE m (l.take i) = r1 := ⟨_, rfl⟩
      rw [hr1] at hone hm' hm''
      have HONE := Lib.hid hone; clear hone hm hr1
      have HM1 := Lib.hid hm'; clear hm'
      have HM2 := Lib.hid hm''; clear hm''
      obtain ⟨m1, m2⟩ := m
      unfold magg at HONE
      dsimp only at d0 d1 HONE
      have e0 : ∀ o, (wo.alloc o).cell? ⟨w.heap.size, 1, none⟩ = some (.slice (some ad) l.length c) := fun o => (HH.out.alloc o).cell 1
      clear hlti
      go_wp2_with fail
      refine wp_region_still_tail 5 (by kernel_rfl) (by kernel_rfl) ?_
      simp only [List.take_succ_cons, List.take_zero, List.drop_succ_cons, List.drop_zero]
      change wpStill _ _ (World.drew (wo.alloc _)) _ _ _
      repeat still_step
      refine wpStill_nil ?_
      change wpList _ _ _ _ _ (World.drew (wo.alloc _))
      go_wp2_with fail
      refine (HONE.out _ ((HK.out.alloc _).drew)).mono ?_
      rintro e w3 ⟨rfl, hk3⟩
      have hk4 := ((HK.out.alloc _).drew).then hk3
      have hh4 := ((HH.out.alloc _).drew).kept hk3 (fun x => x)
      have HK4 := Lib.hid hk4; clear hk4 hk3
      have HH4 := Lib.hid hh4; clear hh4
      by_cases hz : r1 = 0
      · have hs : r = chkFrom (l.take (i + 1)) (l.drop (i + 1)) := by rw [HE.out, HM1.out hz]
        have HS := Lib.hid hs; clear hs
        have hzb : (r1 != 0) = false := by rw [hz]; rfl
        have hzc : (r1 == 0) = true := by rw [hz]; rfl
        clear hz
        go_wp2
        go_roundw
        case rel => exact ⟨i + 1, by omega, by go_num, HH4.out, HK4.out, HS.out⟩
        case measure => simp [intOf]; omega
      · have hs : r = r1 := by rw [HE.out, HM2.out hz]
        subst hs
        have hzb : (r != 0) = true := by simpa using hz
        have hzc : (r == 0) = false := by simpa using hz
        clear hz
        go_wp2
        go_ret
        exact ⟨rfl, HK4.out⟩
    · obtain rfl : i = l.length := by omega
      have hr : r = 0 := by rw [HE.out, List.drop_length]; rfl
      subst hr
      go_wp2
      go_ret
      exact ⟨rfl, HK.out⟩
end Plan
end Go.Proofs.Ytffnaabnbimhbaa

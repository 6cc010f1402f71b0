/- For every list of packets and every list of turns, EtherAll returns true: packets that are sent, and taken in any order, are each told just once. No condition. -/
import Derived.Test.YtploafhenmfmhaaRows
import Derived.Test.YtploafhenmfmhaaEtherRef2
import Derived.Test.YtploafhenmfmhaaOpenPk
import Derived.ProofKit
import Derived.OpenShut
namespace Go.Proofs.Ytploafhenmfmhaa
open Go.RowKit
set_option maxRecDepth 100000
namespace Ether

def sent (l : List Pk) : List Pk := l.foldl sendP []
theorem sendP_len (ps : List Pk) (p : Pk) : (sendP ps p).length ≤ ps.length + 1 := by unfold sendP; split <;> simp
theorem sent_len (l : List Pk) : (sent l).length ≤ l.length := by
  have : ∀ (l : List Pk) (ps : List Pk), (l.foldl sendP ps).length ≤ ps.length + l.length := by
    intro l
    induction l with
    | nil => intro ps; simp
    | cons p l ih =>
      intro ps
      have h1 := ih (sendP ps p)
      have h2 := sendP_len ps p
      simp only [List.foldl_cons, List.length_cons]
      omega
  simpa [sent] using this l []
theorem sent_snoc (l : List Pk) (p : Pk) : sent (l ++ [p]) = sendP (sent l) p := by simp [sent]
theorem sendL_zero (ps : List Pk) (p : Pk) (h : ps.length < 400) : sendL ps 0 p = 0 := by
  have : sendE ps p ≠ 6 := by
    unfold sendE
    split
    · decide
    · rw [if_neg (by omega)]; decide
  unfold sendL
  rw [if_neg this]
theorem take_snoc {l : List Pk} {i : Nat} {p : Pk} (h : l[i]? = some p) : l.take (i + 1) = l.take i ++ [p] := by
  rw [List.take_add_one, h]; rfl

theorem RefAt.self {w : World} {x : Nat} {G : Nat → Prop} {ps : List Pk} {lost : Int} (h : RefAt w x G ps lost) : G x := by
  obtain ⟨A, c, hG, _⟩ := h
  exact (hG x).2 (.inl rfl)

/-- The last place at which p stands among the first j. -/
def lastAt (p : Pk) (qs : List Pk) : Nat → Int
  | 0 => -1
  | j + 1 => if qs[j]? = some p then (j : Int) else lastAt p qs j
theorem lastAt_bd (p : Pk) (qs : List Pk) (j : Nat) : -1 ≤ lastAt p qs j ∧ lastAt p qs j < j := by
  induction j with
  | zero => simp [lastAt]
  | succ j ih => unfold lastAt; split <;> omega
theorem lastAt_at (p : Pk) (qs : List Pk) (j : Nat) (h : 0 ≤ lastAt p qs j) : qs[(lastAt p qs j).toNat]? = some p := by
  induction j with
  | zero => simp [lastAt] at h
  | succ j ih =>
    unfold lastAt at h ⊢
    split
    · rename_i h1
      simpa using h1
    · rename_i h1
      rw [if_neg h1] at h
      exact ih h
theorem lastAt_mem (p : Pk) (qs : List Pk) (j i : Nat) (hi : i < j) (h : qs[i]? = some p) : 0 ≤ lastAt p qs j := by
  induction j with
  | zero => omega
  | succ j ih =>
    unfold lastAt
    split
    · omega
    · rename_i h1
      exact ih (by
        rcases Nat.lt_or_ge i j with h2 | h2
        · exact h2
        · obtain rfl : i = j := by omega
          exact absurd h h1)

theorem run_eql_pk (p q : Pk) (W : World) : (binOp .eql 36 (agg p) (agg q)).run Try.prog W = .ok (.bool (decide (p = q))) W := by
  obtain ⟨p1, p2, p3⟩ := p
  obtain ⟨q1, q2, q3⟩ := q
  have e3 : (p3.toList == q3.toList) = decide (p3 = q3) := by
    rw [ByteArray.toList_eq, ByteArray.toList_eq]
    by_cases h : p3 = q3
    · simp [h]
    · have : p3.data.toList ≠ q3.data.toList := fun e => h (ByteArray.ext (Array.toList_inj.1 e))
      rw [decide_eq_false h, beq_eq_false_iff_ne]
      exact this
  unfold agg
  by_cases h1 : p1 = q1 <;> by_cases h2 : p2 = q2 <;> by_cases h3 : p3 = q3 <;> simp [go_sem, h1, h2, h3, e3]
theorem perm_erase (l : List Pk) (i : Nat) (p : Pk) (h : l[i]? = some p) : (p :: l.eraseIdx i).Perm l := by
  induction l generalizing i with
  | nil => simp at h
  | cons a l ih =>
    cases i with
    | zero =>
      simp at h
      subst h
      exact List.Perm.refl _
    | succ i =>
      simp at h
      exact (List.Perm.swap a p _).trans ((ih i h).cons a)

theorem take_one {F : Nat → Prop} {w : World} {g : Nat} {ps : List Pk} {lost : Int} (h : EtherAt w g F ps lost) (hp : 0 < ps.length) (hlen : ps.length ≤ 1000) (k : Int) :
    Calls Try.prog 23 #[.pointer (some ⟨g, 0, none⟩), .int .i64 k] w fun e w' => ∃ (a : Nat) (p1 p2 : Int) (p3 : ByteArray), ps[a]? = some (p1, p2, p3) ∧ After w g F (.tuple #[.agg #[.int .i64 p1, .int .i64 p2, .string p3], .int .i64 0]) (ps.eraseIdx a) lost e w' := by
  obtain ⟨p, hpk⟩ : ∃ p, ps[placeP ps k]? = some p := ⟨_, List.getElem?_eq_getElem (place_lt hp k)⟩
  exact (take_ok h hp hlen k p hpk).mono fun e w' ha => ⟨_, p.1, p.2.1, p.2.2, hpk, ha⟩
theorem rtake_one {G : Nat → Prop} {w : World} {x : Nat} {ps : List Pk} {lost : Int} (h : RefAt w x G ps lost) (hlen : ps.length ≤ 1000) (k : Nat) (hk : k < ps.length) (p : Pk) (hpk : ps[k]? = some p) :
    Calls Try.prog 24 #[.pointer (some ⟨x, 0, none⟩), .int .i64 k] w (AfterR w x G (.tuple #[agg p, .int .i64 0]) (ps.eraseIdx k) lost) := by
  refine rtake_ok h (by omega) hlen k k ?_ p hpk
  unfold placeP
  rw [show max (k : Int) 0 = k by omega, Int.toNat_natCast]
  exact Nat.mod_eq_of_lt hk

set_option maxHeartbeats 4000000 in
theorem law_all (w : World) (A T : Option Addr) (c tc : Nat) (l : List Pk) (tl : List Int) (hl : Src w 3 A l.length (cellsOf l)) (hlc : l.length ≤ c) (hcm : c ≤ maxLen)
    (ht : Src w 1 T tl.length (tl.map (Value.int .u8))) (htm : tl.length ≤ maxLen) (htb : ∀ x ∈ tl, 0 ≤ x ∧ x ≤ 255) :
    Calls Try.prog 4 #[.slice A l.length c, .slice T tl.length tc] w fun e w' => e = .returned (.bool true) ∧ Below w.heap.size w w' := by
  unfold maxLen at hcm htm
  have HL := Lib.hid hl; clear hl
  have HT := Lib.hid ht; clear ht
  have HTB := Lib.hid htb; clear htb
  go_enter Try.func4, Try.ntmps4
  go_wp2_with fail
  refine (new_any _).mono ?_
  rintro e w1 ⟨g, F1, rfl, hA1, hk1, hF1⟩
  have HA1 := Lib.hid hA1; clear hA1
  go_wp2_with fail
  go_loopw [7] (fun v7 wr => ∃ (i : Nat) (F G : Nat → Prop), i ≤ l.length ∧ i ≤ 60 ∧ v7 = .int .i64 i ∧ EtherAt wr g F (sent (l.take i)) 0 ∧ RefAt wr w1.heap.size G (sent (l.take i)) 0 ∧ Sep F G ∧ (∀ k, F k → w.heap.size ≤ k) ∧ (∀ k, G k → w.heap.size ≤ k) ∧ Below w.heap.size w wr) (fun v7 _ => 60 - (intOf v7).toNat)
  case atStart =>
    refine ⟨0, F1, fun k => k = w1.heap.size ∨ (Value.slice none 0 0).ownBlock = some k, by omega, by omega, rfl, HA1.out.kept ((Kept.refl NoF _).alloc _) (fun _ _ x => x), ⟨none, 0, fun _ => Iff.rfl, Has.new _ _ _, ⟨rfl, .inl ⟨rfl, rfl⟩⟩⟩, ?_, hF1, ?_, (hk1.below (Nat.le_refl _) (fun _ x => x.elim)).alloc hk1.size _⟩
    · intro k hf hx
      have := HA1.out.lt k hf
      rcases hx with rfl | hx
      · omega
      · cases hx
    · rintro k (rfl | hx)
      · exact hk1.size
      · cases hx
  case round =>
    obtain ⟨i, F, G, hi, hi6, rfl, hA, hR, hS, hF, hG, hB⟩ := hrel
    have hsz := hB.size
    by_cases hlt : i < l.length ∧ i < 60
    · obtain ⟨hlt1, hlt2⟩ := hlt
      obtain ⟨p, hp⟩ : ∃ p, l[i]? = some p := ⟨_, List.getElem?_eq_getElem hlt1⟩
      obtain ⟨ad, rfl, had, hcell⟩ := HL.out.2 (by omega)
      obtain ⟨k0, k1, k2⟩ := cellsOf_at l i p hp
      have d0 : ∀ W, Below w.heap.size w W → W.cell? (ad.add (i * 3)) = some (.int .i64 p.1) ∧ W.cell? ⟨(ad.add (i * 3)).block, (ad.add (i * 3)).off + 1, none⟩ = some (.int .i64 p.2.1) ∧ W.cell? ⟨(ad.add (i * 3)).block, (ad.add (i * 3)).off + 2, none⟩ = some (.string p.2.2) := by
        intro W hW
        have hk : ∀ j u, (cellsOf l)[j]? = some u → W.cell? (ad.add j) = some u := fun j u hu => (hW.cell (p := ad.add j) (by rw [block_add]; exact had)).trans (hcell j u hu)
        refine ⟨hk _ _ k0, ?_, ?_⟩
        · rw [← add_lit _ (by omega), add_add]; exact hk _ _ k1
        · rw [← add_lit _ (by omega), add_add]; exact hk _ _ k2
      obtain ⟨c0, c1, c2⟩ := d0 wr hB
      have D := Lib.hid d0; clear d0 hcell k0 k1 k2
      have HP := Lib.hid hp; clear hp
      obtain ⟨p1, p2, p3⟩ := p
      have hlen := sent_len (l.take i)
      have hlen2 : (sent (l.take i)).length ≤ 60 := by rw [List.length_take] at hlen; omega
      have hs := send_any hA (by omega) (by omega) (p1, p2, p3)
      have hz : sendL (sent (l.take i)) 0 (p1, p2, p3) = 0 := sendL_zero _ _ (by omega)
      have hn : sendP (sent (l.take i)) (p1, p2, p3) = sent (l.take (i + 1)) := by rw [take_snoc HP.out, sent_snoc]
      have hr : ∀ W, Kept F wr W → _ := fun W hW => rsend_any (hR.kept hW hS.symm) (by omega) (by omega) (p1, p2, p3)
      rw [hz, hn] at hs hr
      have HS := Lib.hid hs; clear hs
      have HRR := Lib.hid hr; clear hr
      have HRL := Lib.hid hR.lt
      have hself := hR.self
      clear hz hn hlen hlen2 hA hR
      unfold agg at HS HRR
      go_wp2_with fail
      refine HS.out.mono ?_
      rintro e w2 ⟨rfl, F2, hA2, hG2, hk2⟩
      have hB2 := hB.trans (hk2.below hsz hF)
      obtain ⟨e0, e1, e2⟩ := D.out w2 hB2
      have HA2 := Lib.hid hA2; clear hA2
      clear c0 c1 c2
      go_wp2_with fail
      refine (HRR.out w2 hk2).mono ?_
      rintro e w3 ⟨rfl, G3, hR3, hG3, hk3⟩
      have HR3 := Lib.hid hR3; clear hR3
      go_wp2_with fail
      go_roundw
      case rel =>
        have hS2 := hS.grow hG2 HRL.out
        exact ⟨i + 1, F2, G3, by omega, by omega, by go_num, HA2.out.kept hk3 (fun k hf hx => by subst hx; exact hS2 _ hf hself), HR3.out, (hS2.symm.grow hG3 HA2.out.lt).symm, hG2.above hF hsz, hG3.above hG (by have := hk2.size; omega), hB2.trans (hk3.below (by have := hk2.size; omega) (fun k h => by subst h; exact hG _ hself))⟩
      case measure => simp [intOf]; omega
    · have hps := sent_len (l.take i)
      have hp6 : (sent (l.take i)).length ≤ 60 := by rw [List.length_take] at hps; omega
      have H6 := Lib.hid hp6; clear hp6 hps
      generalize sent (l.take i) = ps0 at *
      have hself := hR.self
      have HA0 := Lib.hid hA; clear hA
      have HR0 := Lib.hid hR; clear hR
      have hlo : ((i : Int) < l.length → (60 : Int) ≤ i) := fun h => by omega
      have HLO := Lib.hid hlo; clear hlo
      obtain ⟨wo, rfl⟩ : ∃ wo : World, wo = wr := ⟨_, rfl⟩
      have hl1 : (i < l.length ∧ ¬ (i : Int) < 60) ∨ ¬ i < l.length := by omega
      clear hlt
      rcases hl1 with ⟨hl1, hl2⟩ | hl1
      all_goals
        go_wp2_with fail
        go_loopw [8, 9, 10, 11, 12, 13] (fun v8 v9 v10 v11 v12 v13 wx => ∃ (i2 : Nat) (F2 G2 : Nat → Prop) (ps qs : List Pk), i2 ≤ 60 ∧ v8 = .int .i64 i2 ∧ ps.Perm qs ∧ ps.length + i2 ≤ 60 ∧ EtherAt wx g F2 ps 0 ∧ RefAt wx w1.heap.size G2 qs 0 ∧ Sep F2 G2 ∧ (∀ k, F2 k → w.heap.size ≤ k) ∧ (∀ k, G2 k → w.heap.size ≤ k) ∧ Below w.heap.size w wx) (fun v8 _ _ _ _ _ _ => 60 - (intOf v8).toNat)
        case atStart => exact ⟨0, F, G, ps0, ps0, by omega, rfl, List.Perm.refl _, H6.out, HA0.out, HR0.out, hS, hF, hG, hB⟩
        case round =>
          clear HA0 HR0 hS hF hG hB hself hsz H6
          obtain ⟨i2, F2, G2, ps, qs, h6, rfl, hperm, hlen, hA, hR, hS, hF, hG, hB⟩ := hrel
          have hsz := hB.size
          have hself := hR.self
          have hnl := len_any hA
          have HNL := Lib.hid hnl; clear hnl
          have HPERM := Lib.hid hperm; clear hperm
          have HS := Lib.hid hS; clear hS
          have HF := Lib.hid hF; clear hF
          have HG := Lib.hid hG; clear hG
          by_cases hc : i2 < 60 ∧ 0 < ps.length
          · obtain ⟨hc1, hc2⟩ := hc
            have htk : ∀ K : Int, _ := fun K => take_one hA hc2 (by omega) K
            have HTK := Lib.hid htk; clear htk
            have HA := Lib.hid hA; clear hA
            have HR := Lib.hid hR; clear hR
            have htu : (∃ (ad : Addr) (K : Int), i2 < tl.length ∧ T = some ad ∧ 0 ≤ K ∧ K ≤ 255 ∧ wr.cell? (ad.add i2) = some (.int .u8 K)) ∨ ¬ i2 < tl.length := by
              by_cases htl : i2 < tl.length
              · obtain ⟨ad, e, had, hcell⟩ := HT.out.2 (by omega)
                refine .inl ⟨ad, tl[i2], htl, e, (HTB.out _ (List.getElem_mem htl)).1, (HTB.out _ (List.getElem_mem htl)).2, ?_⟩
                rw [hB.cell (p := ad.add i2) (by rw [block_add]; exact had)]
                exact hcell _ _ (by rw [List.getElem?_map, List.getElem?_eq_getElem htl]; rfl)
              · exact .inr htl
            rcases htu with ⟨ad, K, htl, rfl, hK0, hK1, hcK⟩ | htl
            all_goals
              go_wp2_with fail
              refine HNL.out.mono ?_
              rintro e w2 ⟨rfl, rfl⟩
              go_wp2_with fail
              refine (HTK.out _).mono ?_
              rintro e w2 ⟨a, p1, p2, p3, hpa, rfl, F3, hA3, hG3, hk3⟩
              have hsz2 := hk3.size
              have hB3 := hB.trans (hk3.below hsz HF.out)
              have hS3 := HS.out.grow hG3 HR.out.lt
              have hR3 := (HR.out.kept hk3 HS.out.symm).kept ((Kept.refl NoF w2).alloc (Obj.cells #[.int .i64 p1, .int .i64 p2, .string p3] 36)) (fun _ _ x => x)
              have hA4 := hA3.kept ((Kept.refl NoF w2).alloc (Obj.cells #[.int .i64 p1, .int .i64 p2, .string p3] 36)) (fun _ _ x => x)
              have hP := Has.new w2 36 #[.int .i64 p1, .int .i64 p2, .string p3]
              obtain ⟨wp, hwp⟩ : ∃ wp, wp = w2.alloc (Obj.cells #[.int .i64 p1, .int .i64 p2, .string p3] 36) := ⟨_, rfl⟩
              rw [← hwp] at hR3 hA4 hP
              have hB4 : Below w.heap.size w wp := by rw [hwp]; exact hB3.alloc (by omega) _
              have hsz4 : w.heap.size ≤ wp.heap.size := hB4.size
              have HWP := Lib.hid hwp; clear hwp
              have HA4 := Lib.hid hA4; clear hA4 hA3
              have HR4 := Lib.hid hR3
              obtain ⟨A', c', hG', hx', ho'⟩ := hR3
              have q0 : wp.cell? ⟨w1.heap.size, 0, none⟩ = some (.slice A' qs.length c') := hx'.cell 0
              have b0 : wp.cell? ⟨w2.heap.size, 0, none⟩ = some (.int .i64 p1) := hP.cell 0
              have b1 : wp.cell? ⟨w2.heap.size, 1, none⟩ = some (.int .i64 p2) := hP.cell 1
              have b2 : wp.cell? ⟨w2.heap.size, 2, none⟩ = some (.string p3) := hP.cell 2
              have HPA := Lib.hid hpa; clear hpa
              have HO := Lib.hid ho'; clear ho' hx' hG' hP
              have hql : qs.length = ps.length := HPERM.out.length_eq.symm
              have HQL := Lib.hid hql; clear hql
              have hq6 : qs.length ≤ 60 := by rw [HQL.out]; omega
              go_wp2_with fail
              rw [← HWP.out]
              clear HWP
              go_loopw [12, 13] (fun v12 v13 wy => ∃ j n : Nat, j ≤ qs.length ∧ v13 = .int .i64 j ∧ v12 = .int .i64 (lastAt (p1, p2, p3) qs j) ∧ wy = wp.drewN n) (fun _ v13 _ => qs.length - (intOf v13).toNat)
              case atStart => exact ⟨0, 0, Nat.zero_le _, rfl, rfl, rfl⟩
              case round =>
                obtain ⟨j, n, hj, rfl, rfl, rfl⟩ := hrel
                by_cases hjl : j < qs.length
                · obtain ⟨q, hq⟩ : ∃ q, qs[j]? = some q := ⟨_, List.getElem?_eq_getElem hjl⟩
                  obtain ⟨gg, cap, hv, _, hgl⟩ := HO.out.form (by omega)
                  injection hv with hA' _ hC'
                  subst hA'
                  subst hC'
                  obtain ⟨k0, k1, k2⟩ := cellsOf_at qs j q hq
                  have e1 : ∀ j, ((⟨gg, 0, none⟩ : Addr).add j) = ⟨gg, j, none⟩ := fun j => by unfold Addr.add; split <;> simp_all
                  have hcs := HO.out.cells (g := gg) rfl
                  have d0 : wp.cell? ⟨gg, j * 3, none⟩ = some (.int .i64 q.1) := by rw [← e1]; exact hcs _ _ k0
                  have d1 : wp.cell? ⟨gg, j * 3 + 1, none⟩ = some (.int .i64 q.2.1) := by rw [← e1]; exact hcs _ _ k1
                  have d2 : wp.cell? ⟨gg, j * 3 + 2, none⟩ = some (.string q.2.2) := by rw [← e1]; exact hcs _ _ k2
                  obtain ⟨x1, x2, x3⟩ := q
                  dsimp only at d0 d1 d2
                  have heq : ∀ W : World, (binOp .eql 36 (.agg #[.int .i64 x1, .int .i64 x2, .string x3]) (.agg #[.int .i64 p1, .int .i64 p2, .string p3])).run Try.prog W = .ok (.bool (decide ((x1, x2, x3) = (p1, p2, p3)))) W := run_eql_pk (x1, x2, x3) (p1, p2, p3)
                  obtain ⟨b, hb⟩ : ∃ b : Bool, b = decide ((x1, x2, x3) = (p1, p2, p3)) := ⟨_, rfl⟩
                  rw [← hb] at heq
                  have HB := Lib.hid hb; clear hb
                  have HQ := Lib.hid hq; clear hq k0 k1 k2 hcs e1
                  have hla : lastAt (p1, p2, p3) qs (j + 1) = if b = true then (j : Int) else lastAt (p1, p2, p3) qs j := by
                    show (if qs[j]? = some (p1, p2, p3) then (j : Int) else lastAt (p1, p2, p3) qs j) = _
                    rw [HQ.out, HB.out]
                    by_cases h : (x1, x2, x3) = (p1, p2, p3)
                    · rw [if_pos (by rw [h]), if_pos (by rw [decide_eq_true h])]
                    · rw [if_neg (fun e => h (by injection e)), if_neg (by rw [decide_eq_false h]; decide)]
                  have HLA := Lib.hid hla; clear hla
                  cases b
                  all_goals
                    go_wp2_with fail
                    go_quiet (fail)
                    go_wp2
                    go_roundw
                    case rel => exact ⟨j + 1, _, by omega, by go_num, by rw [HLA.out]; rfl, rfl⟩
                    case measure => simp [intOf]; omega
                · obtain rfl : j = qs.length := by omega
                  have hmem : (p1, p2, p3) ∈ qs := HPERM.out.mem_iff.1 (List.mem_iff_getElem?.2 ⟨a, HPA.out⟩)
                  obtain ⟨m, hm⟩ := List.mem_iff_getElem?.1 hmem
                  have hml : m < qs.length := (List.getElem?_eq_some_iff.1 hm).1
                  have hat0 := lastAt_mem (p1, p2, p3) qs qs.length m hml hm
                  have hat1 := lastAt_at _ _ _ hat0
                  have hat2 := lastAt_bd (p1, p2, p3) qs qs.length
                  obtain ⟨k, hk⟩ : ∃ k : Nat, lastAt (p1, p2, p3) qs qs.length = k := ⟨_, (Int.toNat_of_nonneg hat0).symm⟩
                  rw [hk] at hat0 hat1 hat2
                  rw [Int.toNat_natCast] at hat1
                  have hkl : k < qs.length := by omega
                  rw [hk]
                  have hrt := rtake_one (HR4.out.kept (Kept.quiet NoF wp n) (fun _ _ x => x)) (by omega) k hkl _ hat1
                  have HRT := Lib.hid hrt; clear hrt hk hm hmem hml hat2
                  have HAT := Lib.hid hat1; clear hat1
                  go_wp2_with fail
                  refine HRT.out.mono ?_
                  rintro e w4 ⟨rfl, G4, hR5, hG5, hk5⟩
                  have HR5 := Lib.hid hR5; clear hR5
                  go_wp2_with fail
                  have hself5 : (fun k => k = w1.heap.size) w1.heap.size := rfl
                  have hperm5 : (ps.eraseIdx a).Perm (qs.eraseIdx k) := ((perm_erase ps a _ HPA.out).trans (HPERM.out.trans (perm_erase qs k _ HAT.out).symm)).cons_inv
                  have hlen5 : (ps.eraseIdx a).length + 1 = ps.length := by have := (perm_erase ps a _ HPA.out).length_eq; simpa using this
                  have hA5 := (HA4.out.kept (Kept.quiet NoF wp n) (fun _ _ x => x)).kept hk5 (fun k hf hx => by subst hx; exact hS3 _ hf hself)
                  have hS5 : Sep F3 G4 := (hS3.symm.grow hG5 (fun k hf => HA4.out.lt k hf)).symm
                  have hF5 := hG3.above HF.out hsz
                  have hG5' := hG5.above HG.out hsz4
                  have hB5 : Below w.heap.size w w4 := hB4.trans (((Kept.quiet (fun k => k = w1.heap.size) wp n).then hk5).below hsz4 (fun k h => by subst h; exact HG.out _ hself))
                  go_roundw
                  case rel => exact ⟨i2 + 1, F3, G4, ps.eraseIdx a, qs.eraseIdx k, by omega, by go_num, hperm5, by omega, hA5, HR5.out, hS5, hF5, hG5', hB5⟩
                  case measure => simp [intOf]; omega
          · have hp0 : ps.length = 0 := by omega
            obtain rfl : ps = [] := List.eq_nil_of_length_eq_zero hp0
            obtain rfl : qs = [] := List.eq_nil_of_length_eq_zero (by rw [← HPERM.out.length_eq]; rfl)
            have hlo := lost_any hA
            have HLOST := Lib.hid hlo; clear hlo hA
            obtain ⟨A', c', hG', hx', ho'⟩ := hR
            have q0 : wr.cell? ⟨w1.heap.size, 0, none⟩ = some (.slice A' 0 c') := hx'.cell 0
            clear hG' hx' ho' hlen hp0
            rw [show (([] : List Pk).length : Int) = 0 from rfl] at HNL
            have hcc : (i2 : Int) < 60 ∨ ¬ (i2 : Int) < 60 := by omega
            rcases hcc with hcc | hcc
            · go_wp2_with fail
              refine HNL.out.mono ?_
              rintro e w2 ⟨rfl, rfl⟩
              go_wp2_with fail
              refine HNL.out.mono ?_
              rintro e w2 ⟨rfl, rfl⟩
              go_wp2_with fail
              refine HLOST.out.mono ?_
              rintro e w2 ⟨rfl, rfl⟩
              go_wp2_with fail
              refine (awake_any _).mono ?_
              rintro e w3 ⟨rfl, hk3⟩
              go_wp2_with fail
              go_ret
              exact ⟨rfl, hB.trans (hk3.below hsz (fun _ x => x.elim))⟩
            · go_wp2_with fail
              refine HNL.out.mono ?_
              rintro e w2 ⟨rfl, rfl⟩
              go_wp2_with fail
              refine HLOST.out.mono ?_
              rintro e w2 ⟨rfl, rfl⟩
              go_wp2_with fail
              refine (awake_any _).mono ?_
              rintro e w3 ⟨rfl, hk3⟩
              go_wp2_with fail
              go_ret
              exact ⟨rfl, hB.trans (hk3.below hsz (fun _ x => x.elim))⟩
end Ether
end Go.Proofs.Ytploafhenmfmhaa

namespace Go.Proofs.Ytploafhenmfmhaa.etherAll
open Go.ChangeShapes Go.WideShapes Go.ChangeAt Go.RowKit
open Go.ChangeMaps (open_string shut_string)
set_option maxRecDepth 100000 in
theorem contract (H : Type) (enc : TypeId × Value → H) (W : World) (base : Nat) (args : Array Value) (ds gs : List (DataW H)) (before : List MemPlace)
    (hval : ∀ (j : Nat) t v, Try.f4.params[j]? = some t → args[j]? = some v → Value.okWide Try.prog W .any base t v)
    (hW : DataW.Whole enc Try.prog Try.f4.params.toList Rows.etherAllSpec.vars false W args.toList ds gs before) :
    Calls Try.prog 4 args W fun e W' => ∃ v, e = .returned v ∧ Rows.etherAllSpec.post enc Try.prog Try.f4 false true false false W args v W' := by
  have hW' := hW
  obtain ⟨p, q, hA0, hV, rfl, hfz, hnd⟩ := hW
  have hA : DataW.TrodAll enc Try.prog W 0 (fun _ => true) true Try.f4.params.toList args.toList ds p := hA0
  rw [Try.params4] at hA hval
  obtain ⟨v0, vs0, d0, ds0, p0, q0, hargs, rfl, rfl, h0, r0⟩ := trodAll_cons hA
  obtain ⟨v1, vs1, d1, ds1, p1, q1, rfl, rfl, rfl, h1, r1⟩ := trodAll_cons r0
  obtain ⟨rfl, rfl, rfl⟩ := trodAll_nil r1
  obtain rfl : args = #[v0, v1] := by cases args; simp_all
  obtain ⟨rfl, rfl⟩ := trodVars_none hV
  have hlt : ∀ x : MemPlace, x ∈ _ → x.block < W.heap.size := fun x hx => hW'.lt x hx
  have g0 := h0
  have g1 := h1
  obtain ⟨A0, c0, l0, rfl, hlc0, hcm0, hs0, _⟩ := open_pks (hval 0 27 v0 rfl rfl) h0
  obtain ⟨A1, c1, l1, rfl, hlc1, hcm1, hs1, hb1⟩ := open_u8s (hval 1 28 v1 rfl rfl) h1
  clear hA0
  refine (Ether.law_all W A0 A1 c0 c1 l0 l1 hs0 hlc0 hcm0 hs1 (Nat.le_trans hlc1 hcm1) hb1).mono fun e W' ⟨he, hb⟩ => ?_
  subst he
  exact ⟨_, rfl, post_below (pv := []) hW' (fun _ _ _ => trodAll_cons_mk (shut_bool Try.underlying4 _) trodAll_mk0)
    (fun sp hsp => (trodAll_cons_mk (arg_stays (by kernel_rfl) (by kernel_rfl) g0 hb hlt (fun x hx => hsp x hx) (fun x hx => by first | (simp at hx; done) | simp [hx])) (trodAll_cons_mk (arg_stays (by kernel_rfl) (by kernel_rfl) g1 hb hlt (fun x hx => hsp x hx) (fun x hx => by first | (simp at hx; done) | simp [hx])) trodAll_mk0))) (fun _ _ => rfl) (by simp)
    hb (ok_one (by kernel_rfl) rfl (okWide_bool_mk Try.underlying4 _))⟩

set_option maxRecDepth 100000 in
theorem lifted (os : Os) (started : os.Started) (H : Type) (enc : TypeId × Value → H) :
    ReturnsInHanded {} Try.checked os 4 .any (Rows.etherAllSpec.pre6 enc Try.prog Try.f4 Rows.etherAllRow.domain false) (Rows.etherAllSpec.post enc Try.prog Try.f4 false true false false) := by
  refine returnsInHanded_of_change (C := Try.checked) own started (by kernel_rfl) Try.func4
    (ChangeSpec.witness6 (enc := enc) (C := Try.checked) false ⟨#[], #[.slice none 0 0, .slice none 0 0], []⟩ 8 (by kernel_rfl) (by kernel_rfl) (by kernel_rfl) (by kernel_rfl)) ?_
  intro W base args ds gs before hval hW _ _
  exact contract H enc W base args ds gs before hval hW

set_option maxRecDepth 100000 in
theorem proved : Rows.EtherAllSaid :=
  OpenClaim.holds_of_wide 4 Try.f4 rfl rfl rfl rfl rfl rfl rfl ⟨rfl, rfl, rfl, rfl, rfl⟩ rfl rfl rfl rfl rfl (by kernel_rfl) Try.func4 (by kernel_rfl)
    (of_decide_eq_true (by kernel_rfl)) (by unfold Func.isWrapper; first | (rw [if_pos (by decide +kernel)]; kernel_rfl) | (rw [if_neg (by decide +kernel)]; exact ⟨rfl, rfl⟩))
    (fun os started H enc _ => lifted os started H enc)
#print axioms proved
end Go.Proofs.Ytploafhenmfmhaa.etherAll

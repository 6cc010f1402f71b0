/- Part 52 of what the proof needs. -/
import Derived.Test.YtgffjliedjhbaaaGreatZS07
import Derived.Test.YtgffjliedjhbaaaGreatZS50
set_option linter.unusedSimpArgs false
set_option linter.unusedVariables false
set_option maxHeartbeats 32000000
set_option maxRecDepth 100000
namespace Go.Proofs.YtgffjliedjhbaaaGreat
open Go.RowKit
set_option maxRecDepth 100000
namespace Stz
open Plan Vn
theorem u8r {x : Int} (h : (Lit.int .u8 x).wf = true) : 0 <= x /\ x < 256 := by
 have h1 : 0 <= x /\ x <= 255 := by simpa [Lit.wf,IntKind.min,IntKind.max,IntKind.signed,IntKind.bits] using h
 omega
theorem below_of' {w w' : World} (hk : Kept NoF w w') : Below w.heap.size w w' := hk.below (Nat.le_refl _) (fun _ x => x.elim)
theorem see_made {w : World} {b : Nat} (h : Has w b 25 #[.slice none 0 0,.bool false,.bool true]) : Calls Tryz.prog 5 #[.pointer (some ⟨b,0,none⟩),.pointer none] w fun e w' => e = .returned (.int .i64 0) /\ Kept NoF w w' := by
 have H := hZ0 (snone_any h)
 have q0 : w.cell? ⟨b,1,none⟩ = some (.bool false) := h.cell 1
 have HU := hZ0 (fun i : Int => up_nil w i)
 clear h
 go_enter Tryz.func5,Tryz.ntmps5
 go_wp2_with fail
 refine H.out.mono ?_
 rintro e w' ⟨rfl,rfl⟩
 go_wp2_with fail
 go_loopw [5,6,7,10] (fun v5 v6 v7 v10 wr => ∃ i : Nat,i <= 4 /\ v10 = .int .i64 i /\ wr = w) (fun _ _ _ v10 _ => 4 - (intOf v10).toNat)
 case atStart => exact ⟨0,by decide,rfl,rfl⟩
 case round =>
  obtain ⟨i,hi,rfl,rfl⟩ := hrel
  by_cases hil : i < 4
  ·have hil2 : (i : Int) < 4 := by omega
   go_wp2_with fail
   refine (HU.out _).mono ?_
   rintro e w' ⟨rfl,rfl⟩
   go_wp2_with fail
   go_roundw
   case rel => exact ⟨i + 1,by omega,by go_num,by first | trivial | rfl⟩
   case measure => simp [intOf];omega
  ·obtain rfl : i = 4 := by omega
   go_wp2_with fail
   go_ret
   exact ⟨rfl,Kept.refl _ _⟩
theorem law_zeroS (w : World) (n : Int) (h0 : 0 <= n) (h1 : n < 256) : Calls Tryz.prog 3 #[.int .u8 n] w fun e w' => e = .returned (.bool true) /\ Below w.heap.size w w' := by
 obtain ⟨m,hm,hm1,hm4⟩ : ∃ m : Nat,1 + n % 4 = (m : Int) /\ 1 <= m /\ m <= 4 := ⟨(1 + n % 4).toNat,by omega,by omega,by omega⟩
 have HCN := hZ0 (fun W => clnew_any W m hm1 hm4 1 (by decide))
 have hn0 : Has (w.alloc (.cells #[.slice none 0 0,.bool false,.bool false] 25)) w.heap.size 25 #[.slice none 0 0,.bool false,.bool false] := Has.new _ _ _
 have HN0 := hZ0 hn0
 have HM := hZ0 hm
 clear hm hm1 hm4 hn0
 go_enter Tryz.func3,Tryz.ntmps3
 go_wp2_with fail
 rw [HM.out]
 refine (HCN.out _).mono ?_
 rintro e w2 ⟨⟨p,rfl⟩,hk2⟩
 have hz2 := HN0.out.kept hk2 (fun z => z)
 have hkw : Kept NoF w w2 := ((Kept.refl _ _).alloc _).then hk2
 have HZ := hZ0 hz2;have HKW := hZ0 hkw
 have HS1 := hZ0 (see_nil w2 (.pointer p));have HS2 := hZ0 (see_zero hz2 (.pointer p));have HL1 := hZ0 (list_nil w2);have HL2 := hZ0 (list_zero hz2);have HE1 := hZ0 (len_nil w2);have HE2 := hZ0 (len_zero hz2);have HA1 := hZ0 (last_nil w2);have HA2 := hZ0 (last_zero hz2);have HNW := hZ0 (stnew_any w2)
 clear hk2 hz2 hkw HN0 HCN h0 h1
 go_wp2_with fail
 refine HS1.out.mono ?_
 rintro e w' ⟨rfl,rfl⟩
 go_wp2_with fail
 refine HS2.out.mono ?_
 rintro e w' ⟨rfl,rfl⟩
 go_wp2_with fail
 refine HL1.out.mono ?_
 rintro e w' ⟨rfl,rfl⟩
 go_wp2_with fail
 refine HL2.out.mono ?_
 rintro e w' ⟨rfl,rfl⟩
 go_wp2_with fail
 refine HE1.out.mono ?_
 rintro e w' ⟨rfl,rfl⟩
 go_wp2_with fail
 refine HE2.out.mono ?_
 rintro e w' ⟨rfl,rfl⟩
 go_wp2_with fail
 refine HA1.out.mono ?_
 rintro e w' ⟨rfl,rfl⟩
 go_wp2_with fail
 refine HA2.out.mono ?_
 rintro e w' ⟨rfl,rfl⟩
 go_wp2_with fail
 refine HNW.out.mono ?_
 rintro e w3 ⟨rfl,hn3,hk3⟩
 have HS3 := hZ0 (see_made hn3);have HK3 := hZ0 (HKW.out.then hk3)
 clear hn3 hk3
 go_wp2_with fail
 refine HS3.out.mono ?_
 rintro e w4 ⟨rfl,hk4⟩
 have HK4 := hZ0 (HK3.out.then hk4);clear hk4
 go_wp2_with fail
 refine (Ent.awake37_any w4).mono ?_
 rintro e w5 ⟨rfl,hk5⟩
 have HB := hZ0 (below_of' (HK4.out.then hk5))
 clear hk5
 go_wp2
 go_ret
 exact ⟨rfl,HB.out⟩
end Stz
end Go.Proofs.YtgffjliedjhbaaaGreat

/- The shelf's contract on slices.SortFunc at rows, laid in plain words; ops.Norm of nothing. -/
import Derived.Test.YtnmlemciiigjcaaChecked
import Derived.Test.YtnmlemciiigjcaaSlice
import Derived.Test.YtnmlemciiigjcaaMapSS
import Derived.Shelf.SlSortCmp.WholeK
import Derived.Shelf.SlSortCmp.NoneTotal
import Derived.Ground.SlsfProg
import Derived.Maps.RangeWalk
import Derived.Test.YtnmlemciiigjcaaVar1
set_option linter.unusedSimpArgs false
set_option linter.unusedVariables false
namespace Go.Proofs.Ytnmlemciiigjcaa
open Go.Shelf Go.Sort Go.RowKit Go.Maps Go.Proofs
set_option maxRecDepth 100000
namespace Nrm
def sortFA_ren : Go.Shelf.Ren := ⟨fun | 6 => 111 | 15 => 144 | 14 => 161 | 28 => 181 | 29 => 182 | 20 => 189 | 21 => 190 | 22 => 191 | 23 => 192 | 24 => 193 | 25 => 194 | 26 => 195 | 27 => 196 | 46 => 214 | 47 => 200 | 48 => 201 | 49 => 215 | 50 => 216 | 57 => 221 | n => n, fun | 22 => 167 | 24 => 168 | 25 => 170 | 3 => 3 | 39 => 195 | 0 => 0 | 53 => 227 | 55 => 36 | 4 => 4 | 46 => 219 | 45 => 218 | 50 => 224 | 5 => 5 | 9 => 9 | 66 => 239 | 70 => 242 | 76 => 252 | 77 => 253 | n => n, fun | n => n⟩
theorem sortFA : Go.Proofs.SlLaysF0.n6 Try.prog sortFA_ren := {
  mixed := by kernel_rfl
  f6 := ⟨Try.f111.name, by decide, Try.func111.trans (congrArg some (by kernel_rfl))⟩
  f14 := ⟨Try.f161.name, by decide, Try.func161.trans (congrArg some (by kernel_rfl))⟩
  f15 := Try.func144.trans (congrArg some (by kernel_rfl))
  f20 := ⟨Try.f189.name, by decide, Try.func189.trans (congrArg some (by kernel_rfl))⟩
  f21 := ⟨Try.f190.name, by decide, Try.func190.trans (congrArg some (by kernel_rfl))⟩
  f22 := ⟨Try.f191.name, by decide, Try.func191.trans (congrArg some (by kernel_rfl))⟩
  f23 := ⟨Try.f192.name, by decide, Try.func192.trans (congrArg some (by kernel_rfl))⟩
  f24 := ⟨Try.f193.name, by decide, Try.func193.trans (congrArg some (by kernel_rfl))⟩
  f25 := ⟨Try.f194.name, by decide, Try.func194.trans (congrArg some (by kernel_rfl))⟩
  f26 := ⟨Try.f195.name, by decide, Try.func195.trans (congrArg some (by kernel_rfl))⟩
  f27 := ⟨Try.f196.name, by decide, Try.func196.trans (congrArg some (by kernel_rfl))⟩
  f28 := Try.func181.trans (congrArg some (by kernel_rfl))
  f29 := Try.func182.trans (congrArg some (by kernel_rfl))
  f46 := ⟨Try.f214.name, by decide, Try.func214.trans (congrArg some (by kernel_rfl))⟩
  f47 := Try.func200.trans (congrArg some (by kernel_rfl))
  f48 := Try.func201.trans (congrArg some (by kernel_rfl))
  f49 := ⟨Try.f215.name, by decide, Try.func215.trans (congrArg some (by kernel_rfl))⟩
  f50 := ⟨Try.f216.name, by decide, Try.func216.trans (congrArg some (by kernel_rfl))⟩
  f57 := ⟨Try.f221.name, by decide, Try.func221.trans (congrArg some (by kernel_rfl))⟩
  t0 := Try.underlying0
  a0 := Try.isAgg0
  z0 := Try.sizeOf0
  v0 := Try.zeroValue0
  t3 := Try.underlying3
  a3 := Try.isAgg3
  z3 := Try.sizeOf3
  v3 := Try.zeroValue3
  t4 := Try.underlying4
  a4 := Try.isAgg4
  z4 := Try.sizeOf4
  v4 := Try.zeroValue4
  t5 := Try.underlying5
  a5 := Try.isAgg5
  z5 := Try.sizeOf5
  v5 := Try.zeroValue5
  t9 := Try.underlying9
  a9 := Try.isAgg9
  z9 := Try.sizeOf9
  v9 := Try.zeroValue9
  t22 := Try.underlying167
  a22 := Try.isAgg167
  z22 := Try.sizeOf167
  v22 := Try.zeroValue167
  t25 := Try.underlying170
  a25 := Try.isAgg170
  z25 := Try.sizeOf170
  v25 := Try.zeroValue170
  t39 := Try.underlying195
  a39 := Try.isAgg195
  z39 := Try.sizeOf195
  v39 := Try.zeroValue195
  t45 := Try.underlying218
  a45 := Try.isAgg218
  z45 := Try.sizeOf218
  v45 := Try.zeroValue218
  t46 := Try.underlying219
  a46 := Try.isAgg219
  z46 := Try.sizeOf219
  v46 := Try.zeroValue219
  t50 := Try.underlying224
  a50 := Try.isAgg224
  z50 := Try.sizeOf224
  v50 := Try.zeroValue224
  t53 := Try.underlying227
  a53 := Try.isAgg227
  z53 := Try.sizeOf227
  v53 := Try.zeroValue227
  t55 := Try.underlying36
  a55 := Try.isAgg36
  z55 := Try.sizeOf36
  v55 := Try.zeroValue36
  t66 := Try.underlying239
  a66 := Try.isAgg239
  z66 := Try.sizeOf239
  v66 := Try.zeroValue239
  t70 := Try.underlying242
  a70 := Try.isAgg242
  z70 := Try.sizeOf242
  v70 := Try.zeroValue242
  t76 := Try.underlying252
  a76 := Try.isAgg252
  z76 := Try.sizeOf252
  v76 := Try.zeroValue252
  t77 := Try.underlying253
  a77 := Try.isAgg253
  z77 := Try.sizeOf253
  v77 := Try.zeroValue253 }
theorem sortF_none (p : Option Addr) (cap : Nat) (fv : Value) (w : World) : Calls Try.prog 111 #[.slice p 0 cap, fv] w fun e w' => e = .returned (.tuple #[]) ∧ w' = w :=
  AnyF.slices_SortFunc_none sortFA p cap fv w
def noR : Value → Option (DataW Unit × List MemPlace) := fun _ => none
set_option maxHeartbeats 2000000 in
theorem norm_nil (w : World) (A : Option Addr) (c : Nat) : Calls Try.prog 57 #[.slice A 0 c] w fun e w' => e = .returned (.slice none 0 0) ∧ Kept NoF w w' := by
  have hmk := @run_makeMap Try.prog
  have hown0 : (w.alloc (.map #[] 0)).ownsMap Try.prog 9 noR w.heap.size 0 (.map []) := World.ownsMap_made w _ _ _
  have HK0 := Lib.hid ((Kept.refl NoF w).alloc (.map #[] 0))
  go_enter Try.func57, Try.ntmps57
  go_wp2_with fail
  clear hmk
  obtain ⟨W0, hW0⟩ : ∃ W0, w.alloc (.map #[] 0) = W0 := ⟨_, rfl⟩
  rw [hW0] at hown0 HK0
  rw [hW0]
  clear hW0
  go_loopw [15] (fun v15 wr => v15 = .int .i64 0 ∧ wr = W0) (fun _ _ => 0)
  case atStart => exact ⟨rfl, rfl⟩
  case round =>
    obtain ⟨rfl, rfl⟩ := hrel
    go_wp2_with (first
      | (at_range; refine wpList_range_own _ rfl _ 166 rfl 9 106 Ops.strKeyed Try.underlying166 _ w.heap.size _ _ rfl hown0 ?_; intro w0 hrg0 hg0 hs0)
      | go_in)
    go_frame
    have hk0 : Kept NoF w w0 := HK0.out.grownBy hg0 (fun k hk => by cases hk)
    have HK1 := Lib.hid hk0; clear hk0
    obtain ⟨r, hr⟩ : ∃ r, wr.heap.size = r := ⟨_, rfl⟩
    rw [hr] at hrg0 hs0
    rw [hr]
    clear hr hg0 hs0
    go_loopw [6] (fun v6 wz => v6 = .slice none 0 0 ∧ (∃ cnt, wz.ranges Try.prog 9 noR w.heap.size r 0 (.map []) (has (.map [] : DataW Unit)) cnt) ∧ Kept NoF w wz) (fun _ _ => 0)
    case atStart => exact ⟨rfl, ⟨_, hrg0⟩, HK1.out⟩
    case round =>
      obtain ⟨rfl, ⟨cnt, hrg⟩, hk⟩ := hrel
      have HK := Lib.hid hk; clear hk
      go_wp2_with (first
        | (at_next; refine wpList_next_ranges _ rfl _ rfl 9 Ops.strKeyed noR encStr (fun v : Value => v) (fun key kl hk => by obtain ⟨x, hx, _⟩ := Maps.keyOf_str Try.underlying9 hk; exact ⟨x, hx⟩) (fun v y hv => ⟨v, rfl⟩) w.heap.size r 0 _ _ _ rfl hrg ?_ ?_)
        | go_in)
      · intro hc0 hl0
        clear hrg hl0
        go_wp2_with fail
        refine (sortF_none _ _ _ _).mono ?_
        rintro e w2 ⟨rfl, rfl⟩
        obtain ⟨w3, hw3⟩ : ∃ w3 : World, w3 = w2 := ⟨_, rfl⟩
        subst hw3
        go_wp2_with fail
        go_loopw [9, 38] (fun v9 v38 wy => v9 = .slice none 0 0 ∧ v38 = .int .i64 0 ∧ wy = w3) (fun _ _ _ => 0)
        case atStart => exact ⟨rfl, rfl, rfl⟩
        case round =>
          obtain ⟨rfl, rfl, rfl⟩ := hrel
          go_wp2
          go_ret
          exact ⟨rfl, HK.out⟩
      · intro x cb kl yd yp w2 cnt2 hkey hlk
        exfalso
        simp [has] at hlk
end Nrm
end Go.Proofs.Ytnmlemciiigjcaa

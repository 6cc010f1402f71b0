/- The shelf's contract on slices.Sort at this dump, laid in plain words. -/
import Derived.Test.YtploafhenmfmhaaChecked
import Derived.Shelf.Sort.Plain
import Derived.Shelf.Slices.In.SortNone
import Derived.Sort.OwnSorted
import Derived.Sort.KeysCollected
import Derived.Test.YtploafhenmfmhaaSlice
set_option linter.unusedSimpArgs false
set_option linter.unusedVariables false
namespace Go.Proofs.Ytploafhenmfmhaa
open Go.Shelf Go.Sort Go.RowKit
set_option maxRecDepth 100000
namespace Srt
def lays189_ren : Go.Shelf.Ren := ⟨fun | 189 => 104 | 125 => 102 | 257 => 128 | 128 => 125 | 129 => 126 | 294 => 139 | 295 => 140 | 296 => 141 | 297 => 142 | 298 => 143 | 299 => 144 | 216 => 145 | 300 => 146 | 301 => 147 | 328 => 150 | 329 => 134 | 330 => 135 | 331 => 151 | 332 => 152 | 215 => 153 | 343 => 154 | n => n, fun | 28 => 77 | 3 => 3 | 46 => 154 | 0 => 0 | 51 => 167 | 53 => 165 | 4 => 4 | 183 => 173 | 182 => 172 | 131 => 122 | 5 => 5 | 9 => 9 | 218 => 187 | 222 => 191 | 228 => 203 | 229 => 204 | n => n, fun | n => n⟩
theorem lays189 : Go.Proofs.Lays.n189 Try.prog lays189_ren := {
  mixed := by kernel_rfl
  f125 := Try.func102.trans (congrArg some (by kernel_rfl))
  f128 := Try.func125.trans (congrArg some (by kernel_rfl))
  f129 := Try.func126.trans (congrArg some (by kernel_rfl))
  f189 := Try.func104.trans (congrArg some (by kernel_rfl))
  f215 := Try.func153.trans (congrArg some (by kernel_rfl))
  f216 := Try.func145.trans (congrArg some (by kernel_rfl))
  f257 := Try.func128.trans (congrArg some (by kernel_rfl))
  f294 := Try.func139.trans (congrArg some (by kernel_rfl))
  f295 := Try.func140.trans (congrArg some (by kernel_rfl))
  f296 := Try.func141.trans (congrArg some (by kernel_rfl))
  f297 := Try.func142.trans (congrArg some (by kernel_rfl))
  f298 := Try.func143.trans (congrArg some (by kernel_rfl))
  f299 := Try.func144.trans (congrArg some (by kernel_rfl))
  f300 := Try.func146.trans (congrArg some (by kernel_rfl))
  f301 := Try.func147.trans (congrArg some (by kernel_rfl))
  f328 := Try.func150.trans (congrArg some (by kernel_rfl))
  f329 := Try.func134.trans (congrArg some (by kernel_rfl))
  f330 := Try.func135.trans (congrArg some (by kernel_rfl))
  f331 := Try.func151.trans (congrArg some (by kernel_rfl))
  f332 := Try.func152.trans (congrArg some (by kernel_rfl))
  f343 := Try.func154.trans (congrArg some (by kernel_rfl))
  t0 := Try.underlying0
  a0 := Try.isAgg0
  z0 := Try.sizeOf0
  v0 := Try.zeroValue0
  t3 := Try.underlying3
  a3 := Try.isAgg3
  z3 := Try.sizeOf3
  v3 := Try.zeroValue3
  t4 := Try.underlying4
  a4 := Try.isAgg4
  z4 := Try.sizeOf4
  v4 := Try.zeroValue4
  t5 := Try.underlying5
  a5 := Try.isAgg5
  z5 := Try.sizeOf5
  v5 := Try.zeroValue5
  t9 := Try.underlying9
  a9 := Try.isAgg9
  z9 := Try.sizeOf9
  v9 := Try.zeroValue9
  t28 := Try.underlying77
  a28 := Try.isAgg77
  z28 := Try.sizeOf77
  v28 := Try.zeroValue77
  t46 := Try.underlying154
  a46 := Try.isAgg154
  z46 := Try.sizeOf154
  v46 := Try.zeroValue154
  t51 := Try.underlying167
  a51 := Try.isAgg167
  z51 := Try.sizeOf167
  v51 := Try.zeroValue167
  t53 := Try.underlying165
  a53 := Try.isAgg165
  z53 := Try.sizeOf165
  v53 := Try.zeroValue165
  t131 := Try.underlying122
  a131 := Try.isAgg122
  z131 := Try.sizeOf122
  v131 := Try.zeroValue122
  t182 := Try.underlying172
  a182 := Try.isAgg172
  z182 := Try.sizeOf172
  v182 := Try.zeroValue172
  t183 := Try.underlying173
  a183 := Try.isAgg173
  z183 := Try.sizeOf173
  v183 := Try.zeroValue173
  t218 := Try.underlying187
  a218 := Try.isAgg187
  z218 := Try.sizeOf187
  v218 := Try.zeroValue187
  t222 := Try.underlying191
  a222 := Try.isAgg191
  z222 := Try.sizeOf191
  v222 := Try.zeroValue191
  t228 := Try.underlying203
  a228 := Try.isAgg203
  z228 := Try.sizeOf203
  v228 := Try.zeroValue203
  t229 := Try.underlying204
  a229 := Try.isAgg204
  z229 := Try.sizeOf204
  v229 := Try.zeroValue204 }
def lays190_ren : Go.Shelf.Ren := ⟨fun | 190 => 81 | 125 => 102 | 258 => 101 | 128 => 125 | 129 => 126 | 302 => 116 | 303 => 117 | 304 => 118 | 305 => 119 | 306 => 120 | 307 => 121 | 308 => 122 | 309 => 123 | 310 => 124 | 333 => 133 | 329 => 134 | 330 => 135 | 334 => 136 | 335 => 137 | 336 => 138 | 344 => 149 | n => n, fun | 31 => 69 | 9 => 9 | 3 => 3 | 46 => 154 | 0 => 0 | 51 => 167 | 53 => 165 | 4 => 4 | 183 => 173 | 182 => 172 | 131 => 122 | 5 => 5 | 218 => 187 | 222 => 191 | 228 => 203 | 229 => 204 | n => n, fun | n => n⟩
theorem lays190 : Go.Proofs.Lays.n190 Try.prog lays190_ren := {
  mixed := by kernel_rfl
  f125 := Try.func102.trans (congrArg some (by kernel_rfl))
  f128 := Try.func125.trans (congrArg some (by kernel_rfl))
  f129 := Try.func126.trans (congrArg some (by kernel_rfl))
  f190 := Try.func81.trans (congrArg some (by kernel_rfl))
  f258 := Try.func101.trans (congrArg some (by kernel_rfl))
  f302 := Try.func116.trans (congrArg some (by kernel_rfl))
  f303 := Try.func117.trans (congrArg some (by kernel_rfl))
  f304 := Try.func118.trans (congrArg some (by kernel_rfl))
  f305 := Try.func119.trans (congrArg some (by kernel_rfl))
  f306 := Try.func120.trans (congrArg some (by kernel_rfl))
  f307 := Try.func121.trans (congrArg some (by kernel_rfl))
  f308 := Try.func122.trans (congrArg some (by kernel_rfl))
  f309 := Try.func123.trans (congrArg some (by kernel_rfl))
  f310 := Try.func124.trans (congrArg some (by kernel_rfl))
  f329 := Try.func134.trans (congrArg some (by kernel_rfl))
  f330 := Try.func135.trans (congrArg some (by kernel_rfl))
  f333 := Try.func133.trans (congrArg some (by kernel_rfl))
  f334 := Try.func136.trans (congrArg some (by kernel_rfl))
  f335 := Try.func137.trans (congrArg some (by kernel_rfl))
  f336 := Try.func138.trans (congrArg some (by kernel_rfl))
  f344 := Try.func149.trans (congrArg some (by kernel_rfl))
  t0 := Try.underlying0
  a0 := Try.isAgg0
  z0 := Try.sizeOf0
  v0 := Try.zeroValue0
  t3 := Try.underlying3
  a3 := Try.isAgg3
  z3 := Try.sizeOf3
  v3 := Try.zeroValue3
  t4 := Try.underlying4
  a4 := Try.isAgg4
  z4 := Try.sizeOf4
  v4 := Try.zeroValue4
  t5 := Try.underlying5
  a5 := Try.isAgg5
  z5 := Try.sizeOf5
  v5 := Try.zeroValue5
  t9 := Try.underlying9
  a9 := Try.isAgg9
  z9 := Try.sizeOf9
  v9 := Try.zeroValue9
  t31 := Try.underlying69
  a31 := Try.isAgg69
  z31 := Try.sizeOf69
  v31 := Try.zeroValue69
  t46 := Try.underlying154
  a46 := Try.isAgg154
  z46 := Try.sizeOf154
  v46 := Try.zeroValue154
  t51 := Try.underlying167
  a51 := Try.isAgg167
  z51 := Try.sizeOf167
  v51 := Try.zeroValue167
  t53 := Try.underlying165
  a53 := Try.isAgg165
  z53 := Try.sizeOf165
  v53 := Try.zeroValue165
  t131 := Try.underlying122
  a131 := Try.isAgg122
  z131 := Try.sizeOf122
  v131 := Try.zeroValue122
  t182 := Try.underlying172
  a182 := Try.isAgg172
  z182 := Try.sizeOf172
  v182 := Try.zeroValue172
  t183 := Try.underlying173
  a183 := Try.isAgg173
  z183 := Try.sizeOf173
  v183 := Try.zeroValue173
  t218 := Try.underlying187
  a218 := Try.isAgg187
  z218 := Try.sizeOf187
  v218 := Try.zeroValue187
  t222 := Try.underlying191
  a222 := Try.isAgg191
  z222 := Try.sizeOf191
  v222 := Try.zeroValue191
  t228 := Try.underlying203
  a228 := Try.isAgg203
  z228 := Try.sizeOf203
  v228 := Try.zeroValue203
  t229 := Try.underlying204
  a229 := Try.isAgg204
  z229 := Try.sizeOf204
  v229 := Try.zeroValue204 }
theorem slices_Sort_int (blk off cap : Nat) (zs : List Int) (w : World) (hH : Holds (Value.int .i64) w blk off zs.toArray) (hblk : blk < w.heap.size) (hsz : zs.length < 4611686018427387904) :
    Calls Try.prog 104 #[.slice (some ⟨blk, off, none⟩) zs.length cap] w fun e w' =>
      e = .returned (.tuple #[]) ∧ ∃ n os, w' = grow (putRow (Value.int .i64) (Sort.ahead w n) blk off (zs.mergeSort fun x y => decide (x ≤ y)).toArray) os := Any.slices_Sort_int lays189 blk off cap zs w hH hblk hsz
theorem slices_Sort_string (blk off cap : Nat) (ss : List (List UInt8)) (w : World) (hH : Holds encStr w blk off ss.toArray) (hblk : blk < w.heap.size) (hsz : ss.length < 4611686018427387904) :
    Calls Try.prog 81 #[.slice (some ⟨blk, off, none⟩) ss.length cap] w fun e w' =>
      e = .returned (.tuple #[]) ∧ ∃ n os, w' = grow (putRow encStr (Sort.ahead w n) blk off (ss.mergeSort fun x y => decide (x ≤ y)).toArray) os := Any.slices_Sort_string lays190 blk off cap ss w hH hblk hsz
theorem slices_Sort_string_none (p : Option Addr) (cap : Nat) (w : World) :
    Calls Try.prog 81 #[.slice p 0 cap] w fun e w' => e = .returned (.tuple #[]) ∧ w' = w := Any.slices_Sort_string_none lays190 p cap w
theorem slices_Sort_int_none (p : Option Addr) (cap : Nat) (w : World) :
    Calls Try.prog 104 #[.slice p 0 cap] w fun e w' => e = .returned (.tuple #[]) ∧ w' = w := Any.slices_Sort_int_none lays189 p cap w
/-- slices.Sort on a row of texts that the call owns. -/
theorem sort_own {w : World} {B : Nat} {A : Option Addr} {c : Nat} {ss : List (List UInt8)} (h : w.ownsRow B 9 1 (.slice A ss.length c) ss.length (ss.map encStr)) (hsz : ss.length < 4611686018427387904) :
    Calls Try.prog 81 #[.slice A ss.length c] w fun e w' => e = .returned (.tuple #[]) ∧ w'.ownsRow B 9 1 (.slice A ss.length c) ss.length ((ss.mergeSort leB).map encStr) ∧ Kept (fun k => (Value.slice A ss.length c).ownBlock = some k) w w' := by
  rcases h.2 with ⟨hv, h0⟩ | ⟨g, cap, cur, hv, hb, hg, h1, h2, h3, h4⟩
  · have hs : ss = [] := List.eq_nil_of_length_eq_zero h0
    subst hs
    refine (slices_Sort_string_none A c w).mono ?_
    rintro e w' ⟨rfl, rfl⟩
    exact ⟨rfl, by simpa using h, Kept.refl _ _⟩
  · injection hv with e1 e2 e3
    subst e1
    subst e3
    refine (slices_Sort_string g 0 c ss w (holds_of_block hg (by simpa using h4)) (Array.getElem?_eq_some_iff.1 hg).1 hsz).mono ?_
    rintro e w' ⟨rfl, n, os, rfl⟩
    exact ⟨rfl, ownsRow_sorted (by simp) hb hg h1 h2 h3, (Kept.refl _ _).grownBy (grownBy_sorted _) (fun k hk => .inl hk)⟩
end Srt
end Go.Proofs.Ytploafhenmfmhaa

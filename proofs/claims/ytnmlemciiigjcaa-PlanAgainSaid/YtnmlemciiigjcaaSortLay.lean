/- The shelf's contract on slices.Sort at this dump, laid in plain words. -/
import Derived.Test.YtnmlemciiigjcaaChecked
import Derived.Shelf.Sort.Plain
import Derived.Shelf.Slices.In.SortNone
import Derived.Sort.OwnSorted
import Derived.Sort.KeysCollected
import Derived.Test.YtnmlemciiigjcaaSlice
set_option linter.unusedSimpArgs false
set_option linter.unusedVariables false
namespace Go.Proofs.Ytnmlemciiigjcaa
open Go.Shelf Go.Sort Go.RowKit
set_option maxRecDepth 100000
namespace Srt
def lays189_ren : Go.Shelf.Ren := ⟨fun | 189 => 85 | 125 => 144 | 257 => 143 | 128 => 181 | 129 => 182 | 294 => 172 | 295 => 173 | 296 => 174 | 297 => 175 | 298 => 176 | 299 => 177 | 216 => 178 | 300 => 179 | 301 => 180 | 328 => 199 | 329 => 200 | 330 => 201 | 331 => 202 | 332 => 203 | 215 => 204 | 343 => 217 | n => n, fun | 28 => 64 | 3 => 3 | 46 => 195 | 0 => 0 | 51 => 227 | 53 => 36 | 4 => 4 | 183 => 219 | 182 => 218 | 131 => 224 | 5 => 5 | 9 => 9 | 218 => 239 | 222 => 242 | 228 => 252 | 229 => 253 | n => n, fun | n => n⟩
theorem lays189 : Go.Proofs.Lays.n189 Try.prog lays189_ren := {
  mixed := by kernel_rfl
  f125 := Try.func144.trans (congrArg some (by kernel_rfl))
  f128 := Try.func181.trans (congrArg some (by kernel_rfl))
  f129 := Try.func182.trans (congrArg some (by kernel_rfl))
  f189 := Try.func85.trans (congrArg some (by kernel_rfl))
  f215 := Try.func204.trans (congrArg some (by kernel_rfl))
  f216 := Try.func178.trans (congrArg some (by kernel_rfl))
  f257 := Try.func143.trans (congrArg some (by kernel_rfl))
  f294 := Try.func172.trans (congrArg some (by kernel_rfl))
  f295 := Try.func173.trans (congrArg some (by kernel_rfl))
  f296 := Try.func174.trans (congrArg some (by kernel_rfl))
  f297 := Try.func175.trans (congrArg some (by kernel_rfl))
  f298 := Try.func176.trans (congrArg some (by kernel_rfl))
  f299 := Try.func177.trans (congrArg some (by kernel_rfl))
  f300 := Try.func179.trans (congrArg some (by kernel_rfl))
  f301 := Try.func180.trans (congrArg some (by kernel_rfl))
  f328 := Try.func199.trans (congrArg some (by kernel_rfl))
  f329 := Try.func200.trans (congrArg some (by kernel_rfl))
  f330 := Try.func201.trans (congrArg some (by kernel_rfl))
  f331 := Try.func202.trans (congrArg some (by kernel_rfl))
  f332 := Try.func203.trans (congrArg some (by kernel_rfl))
  f343 := Try.func217.trans (congrArg some (by kernel_rfl))
  t0 := Try.underlying0
  a0 := Try.isAgg0
  z0 := Try.sizeOf0
  v0 := Try.zeroValue0
  t3 := Try.underlying3
  a3 := Try.isAgg3
  z3 := Try.sizeOf3
  v3 := Try.zeroValue3
  t4 := Try.underlying4
  a4 := Try.isAgg4
  z4 := Try.sizeOf4
  v4 := Try.zeroValue4
  t5 := Try.underlying5
  a5 := Try.isAgg5
  z5 := Try.sizeOf5
  v5 := Try.zeroValue5
  t9 := Try.underlying9
  a9 := Try.isAgg9
  z9 := Try.sizeOf9
  v9 := Try.zeroValue9
  t28 := Try.underlying64
  a28 := Try.isAgg64
  z28 := Try.sizeOf64
  v28 := Try.zeroValue64
  t46 := Try.underlying195
  a46 := Try.isAgg195
  z46 := Try.sizeOf195
  v46 := Try.zeroValue195
  t51 := Try.underlying227
  a51 := Try.isAgg227
  z51 := Try.sizeOf227
  v51 := Try.zeroValue227
  t53 := Try.underlying36
  a53 := Try.isAgg36
  z53 := Try.sizeOf36
  v53 := Try.zeroValue36
  t131 := Try.underlying224
  a131 := Try.isAgg224
  z131 := Try.sizeOf224
  v131 := Try.zeroValue224
  t182 := Try.underlying218
  a182 := Try.isAgg218
  z182 := Try.sizeOf218
  v182 := Try.zeroValue218
  t183 := Try.underlying219
  a183 := Try.isAgg219
  z183 := Try.sizeOf219
  v183 := Try.zeroValue219
  t218 := Try.underlying239
  a218 := Try.isAgg239
  z218 := Try.sizeOf239
  v218 := Try.zeroValue239
  t222 := Try.underlying242
  a222 := Try.isAgg242
  z222 := Try.sizeOf242
  v222 := Try.zeroValue242
  t228 := Try.underlying252
  a228 := Try.isAgg252
  z228 := Try.sizeOf252
  v228 := Try.zeroValue252
  t229 := Try.underlying253
  a229 := Try.isAgg253
  z229 := Try.sizeOf253
  v229 := Try.zeroValue253 }
def lays190_ren : Go.Shelf.Ren := ⟨fun | 190 => 159 | 125 => 144 | 258 => 188 | 128 => 181 | 129 => 182 | 302 => 205 | 303 => 206 | 304 => 207 | 305 => 208 | 306 => 209 | 307 => 210 | 308 => 211 | 309 => 212 | 310 => 213 | 333 => 218 | 329 => 200 | 330 => 201 | 334 => 219 | 335 => 220 | 336 => 197 | 344 => 222 | n => n, fun | 31 => 33 | 9 => 9 | 3 => 3 | 46 => 195 | 0 => 0 | 51 => 227 | 53 => 36 | 4 => 4 | 183 => 219 | 182 => 218 | 131 => 224 | 5 => 5 | 218 => 239 | 222 => 242 | 228 => 252 | 229 => 253 | n => n, fun | n => n⟩
theorem lays190 : Go.Proofs.Lays.n190 Try.prog lays190_ren := {
  mixed := by kernel_rfl
  f125 := Try.func144.trans (congrArg some (by kernel_rfl))
  f128 := Try.func181.trans (congrArg some (by kernel_rfl))
  f129 := Try.func182.trans (congrArg some (by kernel_rfl))
  f190 := Try.func159.trans (congrArg some (by kernel_rfl))
  f258 := Try.func188.trans (congrArg some (by kernel_rfl))
  f302 := Try.func205.trans (congrArg some (by kernel_rfl))
  f303 := Try.func206.trans (congrArg some (by kernel_rfl))
  f304 := Try.func207.trans (congrArg some (by kernel_rfl))
  f305 := Try.func208.trans (congrArg some (by kernel_rfl))
  f306 := Try.func209.trans (congrArg some (by kernel_rfl))
  f307 := Try.func210.trans (congrArg some (by kernel_rfl))
  f308 := Try.func211.trans (congrArg some (by kernel_rfl))
  f309 := Try.func212.trans (congrArg some (by kernel_rfl))
  f310 := Try.func213.trans (congrArg some (by kernel_rfl))
  f329 := Try.func200.trans (congrArg some (by kernel_rfl))
  f330 := Try.func201.trans (congrArg some (by kernel_rfl))
  f333 := Try.func218.trans (congrArg some (by kernel_rfl))
  f334 := Try.func219.trans (congrArg some (by kernel_rfl))
  f335 := Try.func220.trans (congrArg some (by kernel_rfl))
  f336 := Try.func197.trans (congrArg some (by kernel_rfl))
  f344 := Try.func222.trans (congrArg some (by kernel_rfl))
  t0 := Try.underlying0
  a0 := Try.isAgg0
  z0 := Try.sizeOf0
  v0 := Try.zeroValue0
  t3 := Try.underlying3
  a3 := Try.isAgg3
  z3 := Try.sizeOf3
  v3 := Try.zeroValue3
  t4 := Try.underlying4
  a4 := Try.isAgg4
  z4 := Try.sizeOf4
  v4 := Try.zeroValue4
  t5 := Try.underlying5
  a5 := Try.isAgg5
  z5 := Try.sizeOf5
  v5 := Try.zeroValue5
  t9 := Try.underlying9
  a9 := Try.isAgg9
  z9 := Try.sizeOf9
  v9 := Try.zeroValue9
  t31 := Try.underlying33
  a31 := Try.isAgg33
  z31 := Try.sizeOf33
  v31 := Try.zeroValue33
  t46 := Try.underlying195
  a46 := Try.isAgg195
  z46 := Try.sizeOf195
  v46 := Try.zeroValue195
  t51 := Try.underlying227
  a51 := Try.isAgg227
  z51 := Try.sizeOf227
  v51 := Try.zeroValue227
  t53 := Try.underlying36
  a53 := Try.isAgg36
  z53 := Try.sizeOf36
  v53 := Try.zeroValue36
  t131 := Try.underlying224
  a131 := Try.isAgg224
  z131 := Try.sizeOf224
  v131 := Try.zeroValue224
  t182 := Try.underlying218
  a182 := Try.isAgg218
  z182 := Try.sizeOf218
  v182 := Try.zeroValue218
  t183 := Try.underlying219
  a183 := Try.isAgg219
  z183 := Try.sizeOf219
  v183 := Try.zeroValue219
  t218 := Try.underlying239
  a218 := Try.isAgg239
  z218 := Try.sizeOf239
  v218 := Try.zeroValue239
  t222 := Try.underlying242
  a222 := Try.isAgg242
  z222 := Try.sizeOf242
  v222 := Try.zeroValue242
  t228 := Try.underlying252
  a228 := Try.isAgg252
  z228 := Try.sizeOf252
  v228 := Try.zeroValue252
  t229 := Try.underlying253
  a229 := Try.isAgg253
  z229 := Try.sizeOf253
  v229 := Try.zeroValue253 }
theorem slices_Sort_int (blk off cap : Nat) (zs : List Int) (w : World) (hH : Holds (Value.int .i64) w blk off zs.toArray) (hblk : blk < w.heap.size) (hsz : zs.length < 4611686018427387904) :
    Calls Try.prog 85 #[.slice (some ⟨blk, off, none⟩) zs.length cap] w fun e w' =>
      e = .returned (.tuple #[]) ∧ ∃ n os, w' = grow (putRow (Value.int .i64) (Sort.ahead w n) blk off (zs.mergeSort fun x y => decide (x ≤ y)).toArray) os := Any.slices_Sort_int lays189 blk off cap zs w hH hblk hsz
theorem slices_Sort_string (blk off cap : Nat) (ss : List (List UInt8)) (w : World) (hH : Holds encStr w blk off ss.toArray) (hblk : blk < w.heap.size) (hsz : ss.length < 4611686018427387904) :
    Calls Try.prog 159 #[.slice (some ⟨blk, off, none⟩) ss.length cap] w fun e w' =>
      e = .returned (.tuple #[]) ∧ ∃ n os, w' = grow (putRow encStr (Sort.ahead w n) blk off (ss.mergeSort fun x y => decide (x ≤ y)).toArray) os := Any.slices_Sort_string lays190 blk off cap ss w hH hblk hsz
theorem slices_Sort_string_none (p : Option Addr) (cap : Nat) (w : World) :
    Calls Try.prog 159 #[.slice p 0 cap] w fun e w' => e = .returned (.tuple #[]) ∧ w' = w := Any.slices_Sort_string_none lays190 p cap w
theorem slices_Sort_int_none (p : Option Addr) (cap : Nat) (w : World) :
    Calls Try.prog 85 #[.slice p 0 cap] w fun e w' => e = .returned (.tuple #[]) ∧ w' = w := Any.slices_Sort_int_none lays189 p cap w
/-- slices.Sort on a row of texts that the call owns. -/
theorem sort_own {w : World} {B : Nat} {A : Option Addr} {c : Nat} {ss : List (List UInt8)} (h : w.ownsRow B 9 1 (.slice A ss.length c) ss.length (ss.map encStr)) (hsz : ss.length < 4611686018427387904) :
    Calls Try.prog 159 #[.slice A ss.length c] w fun e w' => e = .returned (.tuple #[]) ∧ w'.ownsRow B 9 1 (.slice A ss.length c) ss.length ((ss.mergeSort leB).map encStr) ∧ Kept (fun k => (Value.slice A ss.length c).ownBlock = some k) w w' := by
  rcases h.2 with ⟨hv, h0⟩ | ⟨g, cap, cur, hv, hb, hg, h1, h2, h3, h4⟩
  · have hs : ss = [] := List.eq_nil_of_length_eq_zero h0
    subst hs
    refine (slices_Sort_string_none A c w).mono ?_
    rintro e w' ⟨rfl, rfl⟩
    exact ⟨rfl, by simpa using h, Kept.refl _ _⟩
  · injection hv with e1 e2 e3
    subst e1
    subst e3
    refine (slices_Sort_string g 0 c ss w (holds_of_block hg (by simpa using h4)) (Array.getElem?_eq_some_iff.1 hg).1 hsz).mono ?_
    rintro e w' ⟨rfl, n, os, rfl⟩
    exact ⟨rfl, ownsRow_sorted (by simp) hb hg h1 h2 h3, (Kept.refl _ _).grownBy (grownBy_sorted _) (fun k hk => .inl hk)⟩
end Srt
end Go.Proofs.Ytnmlemciiigjcaa

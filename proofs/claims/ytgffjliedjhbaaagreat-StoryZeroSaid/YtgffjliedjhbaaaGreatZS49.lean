/- Part 50 of what the proof needs. -/
import Derived.Test.YtgffjliedjhbaaaGreatZS27
import Derived.Test.YtgffjliedjhbaaaGreatZS48
set_option linter.unusedSimpArgs false
set_option linter.unusedVariables false
set_option maxHeartbeats 32000000
set_option maxRecDepth 100000
namespace Go.Proofs.YtgffjliedjhbaaaGreat
open Go.RowKit
set_option maxRecDepth 100000
namespace Stz
open Plan Vn
structure DsR (w : World) (c hi k n : Nat) (gs : Nat -> Nat) (Fs : Nat -> Nat -> Prop) : Prop where
 at' : ∀ j,k <= j -> j < n -> Disk.DiskAt w (gs j) (Fs j) 0 (fun _ => none) [] 1 1
 lo : ∀ j x,k <= j -> j < n -> Fs j x -> c < x /\ x < hi
 ap : ∀ i j x,k <= i -> i < n -> k <= j -> j < n -> Fs i x -> Fs j x -> i = j
structure CR (w : World) (c hi k n : Nat) (gs : Nat -> Nat) (Fs : Nat -> Nat -> Prop) (cs : List Value) : Prop where
 cl : Has w c 49 cs.toArray
 len : cs.length = 16
 ds : DsR w c hi k n gs Fs
 ce : ∀ j,k <= j -> j < n -> cs[j]? = some (.pointer (some ⟨gs j,0,none⟩))
theorem CR.zero {w : World} {c hi : Nat} {cs : List Value} (h : Has w c 49 cs.toArray) (hl : cs.length = 16) : CR w c hi 0 0 (fun _ => 0) (fun _ _ => False) cs :=
 ⟨h,hl,⟨fun j _ h => by omega,fun j _ _ h => by omega,fun i _ _ _ h => by omega⟩,fun j _ h => by omega⟩
theorem _root_.Go.Proofs.YtgffjliedjhbaaaGreat.Has.putL {w : World} {c : Nat} {t : TypeId} {cs : List Value} (h : Has w c t cs.toArray) (i : Nat) (v : Value) : Has (w.setCell ⟨c,i,none⟩ v) c t (cs.set i v).toArray := Has.put_of h (by simp)
theorem _root_.Go.Proofs.YtgffjliedjhbaaaGreat.Has.someL {w : World} {c : Nat} {t : TypeId} {cs : List Value} (h : Has w c t cs.toArray) {i : Nat} (hi : i < cs.length) : ∃ v, w.cell? ⟨c, i, none⟩ = some v := ⟨cs[i], by rw [h.cell]; simp [hi]⟩
section
variable {w w' : World} {c hi k n : Nat} {gs : Nat -> Nat} {Fs : Nat -> Nat -> Prop} {cs : List Value} {F : Nat -> Prop}
theorem CR.add (h : CR w c w.heap.size 0 n gs Fs cs) (hn : n < 16) {g : Nat} (hd : Disk.DiskAt w' g F 0 (fun _ => none) [] 1 1) (hF : ∀ x,F x -> w.heap.size <= x) (hk : Kept NoF w w') :
  CR (w'.setCell ⟨c,n,none⟩ (.pointer (some ⟨g,0,none⟩))) c w'.heap.size 0 (n + 1) (fun j => if j = n then g else gs j) (fun j => if j = n then F else Fs j) (cs.set n (.pointer (some ⟨g,0,none⟩))) := by
 have hc := h.cl.lt
 have hk1 : Kept (fun k => k = c) w' (w'.setCell ⟨c,n,none⟩ (.pointer (some ⟨g,0,none⟩))) := (Kept.refl _ w').put (.inl rfl)
 have hsz := hk.size
 refine ⟨Has.putL (h.cl.kept hk (fun z => z)) _ _,by rw [List.length_set,h.len],⟨fun j _ hj => ?_,fun j x _ hj hx => ?_,fun i j x _ hi _ hj hx hy => ?_⟩,fun j _ hj => ?_⟩
 ·by_cases e : j = n
  ·subst e
   simp only [if_pos rfl]
   exact hd.kept hk1 (fun x hx e => by have := hF x hx;omega)
  ·simp only [if_neg e]
   exact ((h.ds.at' j (Nat.zero_le _) (by omega)).kept hk (fun _ _ z => z)).kept hk1 (fun x hx e2 => by have := h.ds.lo j x (Nat.zero_le _) (by omega) hx;omega)
 ·by_cases e : j = n
  ·subst e
   simp only [if_pos rfl] at hx
   have := hF x hx;have := hd.lt x hx;omega
  ·simp only [if_neg e] at hx
   have := h.ds.lo j x (Nat.zero_le _) (by omega) hx;omega
 ·by_cases e : i = n
  ·by_cases e2 : j = n
   ·rw [e,e2]
   ·simp only [if_pos e] at hx
    simp only [if_neg e2] at hy
    have := h.ds.lo j x (Nat.zero_le _) (by omega) hy
    have := hF x hx;omega
  ·by_cases e2 : j = n
   ·simp only [if_neg e] at hx
    simp only [if_pos e2] at hy
    have := h.ds.lo i x (Nat.zero_le _) (by omega) hx
    have := hF x hy;omega
   ·simp only [if_neg e] at hx
    simp only [if_neg e2] at hy
    exact h.ds.ap i j x (Nat.zero_le _) (by omega) (Nat.zero_le _) (by omega) hx hy
 ·by_cases e : j = n
  ·subst e
   simp only [if_pos rfl]
   exact List.getElem?_set_self (by rw [h.len];exact hn)
  ·simp only [if_neg e]
   rw [List.getElem?_set_ne (fun h => e h.symm)]
   exact h.ce j (Nat.zero_le _) (by omega)
theorem CR.drop (h : CR w c hi k n gs Fs cs) (hk : Kept (Fs k) w w') (hkn : k < n) : CR w' c hi (k + 1) n gs Fs cs :=
 ⟨h.cl.kept hk (fun e => by have := h.ds.lo k c (Nat.le_refl _) hkn e;omega),h.len,
  ⟨fun j h1 h2 => (h.ds.at' j (by omega) h2).kept hk (fun x hx hy => by have := h.ds.ap j k x (by omega) h2 (Nat.le_refl _) hkn hx hy;omega),fun j x h1 h2 hx => h.ds.lo j x (by omega) h2 hx,
   fun i j x a1 a2 a3 a4 hx hy => h.ds.ap i j x (by omega) a2 (by omega) a4 hx hy⟩,fun j h1 h2 => h.ce j (by omega) h2⟩
theorem CR.kept (h : CR w c hi k n gs Fs cs) {G : Nat -> Prop} (hk : Kept G w w') (hG : ∀ x,G x -> hi <= x \/ x < c) (hc : c < hi) : CR w' c hi k n gs Fs cs :=
 ⟨h.cl.kept hk (fun e => by have := hG c e;omega),h.len,
  ⟨fun j h1 h2 => (h.ds.at' j h1 h2).kept hk (fun x hx hy => by have := h.ds.lo j x h1 h2 hx;have := hG x hy;omega),h.ds.lo,h.ds.ap⟩,h.ce⟩
theorem CR.set (h : CR w c hi k n gs Fs cs) (i : Nat) (v : Value) (hi' : n <= i) : CR (w.setCell ⟨c,i,none⟩ v) c hi k n gs Fs (cs.set i v) := by
 have hk1 : Kept (fun k => k = c) w (w.setCell ⟨c,i,none⟩ v) := (Kept.refl _ w).put (.inl rfl)
 refine ⟨Has.putL h.cl _ _,by rw [List.length_set,h.len],⟨fun j h1 h2 => (h.ds.at' j h1 h2).kept hk1 (fun x hx e => by have := h.ds.lo j x h1 h2 hx;omega),h.ds.lo,h.ds.ap⟩,fun j h1 h2 => ?_⟩
 rw [List.getElem?_set_ne (by omega)]
 exact h.ce j h1 h2
end
def memL (n i : Nat) : List Mem := (List.range (min i n)).map fun j : Nat => ((j : Int),(1 : Int))
theorem memL_snoc {n i : Nat} (h : i < n) : memL n (i + 1) = memL n i ++ [((i : Int),1)] := by
 unfold memL
 rw [show min (i + 1) n = i + 1 by omega,show min i n = i by omega,List.range_succ,List.map_append]
 rfl
theorem memL_same {n i : Nat} (h : n <= i) : memL n (i + 1) = memL n i := by
 unfold memL
 rw [show min (i + 1) n = n by omega,show min i n = n by omega]
theorem memL_len (n i : Nat) : (memL n i).length = min i n := by simp [memL]
theorem memL_chk {n : Nat} (h0 : 1 <= n) (h1 : n <= 4) : Plan.chk 1 (memL n 4) = 0 := by
 rcases (show n = 1 \/ n = 2 \/ n = 3 \/ n = 4 by omega) with rfl | rfl | rfl | rfl <;> decide
end Stz
end Go.Proofs.YtgffjliedjhbaaaGreat

/- Part 26 of what the proof needs. -/
import Derived.Test.YtgffjliedjhbaaaGreatZS24
import Derived.Defers
set_option linter.unusedSimpArgs false
set_option linter.unusedVariables false
set_option maxHeartbeats 32000000
set_option maxRecDepth 100000
namespace Go.Proofs.YtgffjliedjhbaaaGreat
open Go.RowKit
set_option maxRecDepth 100000
namespace Pt
open Disk Fr Vn Ops Wl
def ptx (k : Nat) (l : List ByteArray) : List (List UInt8) := (80 :: put k) :: l.map fun s => 84 :: bl s
theorem ptx_snoc (k : Nat) (l : List ByteArray) (s : ByteArray) : ptx k (l ++ [s]) = ptx k l ++ [84 :: bl s] := by simp [ptx]
theorem ptx_len (k : Nat) (l : List ByteArray) : (ptx k l).length = l.length + 1 := by simp [ptx]
theorem DiskAt.not {F : Nat -> Prop} {w : World} {g n k : Nat} {m : Disk.Safe} {ps : List Disk.Pc} {ser boot : Int} {t : TypeId} {cs : Array Value} (h : DiskAt w g F n m ps ser boot) (hh : Has w k t cs) (h1 : t ≠ 92) (h2 : t ≠ 169) : ¬ F k := by
 obtain ⟨mb,A,c,hF,hg,hm,ho⟩ := h
 intro hf
 rcases (hF k).1 hf with rfl | rfl | hx
 ·exact hg.ne hh (fun e => h1 e.symm) rfl
 ·exact hm.ne hh rfl
 ·exact own_ne ho hh (fun e => h2 e.symm) hx
theorem Src.keptIf {F : Nat -> Prop} {w w' : World} {size m : Nat} {A : Option Addr} {news : List Value} (h : Src w size A m news) (hk : Kept F w w') (hf : 0 < m -> ∀ ad,A = some ad -> ¬ F ad.block) : Src w' size A m news := by
 rcases Nat.eq_zero_or_pos m with rfl | h0
 ·have e : news = [] := List.eq_nil_of_length_eq_zero (by have := h.1;omega)
  rw [e]
  exact Src.nil _ _ _
 ·exact h.kept hk (hf h0)
theorem ofL_cat (a b : List UInt8) : ofL a ++ ofL b = ofL (a ++ b) := by
 apply ByteArray.ext
 simp [ofL]
abbrev PAt (w : World) (gp : Nat) (v0 : Value) (g : Nat) (first : Int) (v3 : Value) : Prop := Has w gp 158 #[v0,.pointer (some ⟨g,0,none⟩),.int .i64 first,v3]
def BeginPost (w : World) (gp g : Nat) (F : Nat -> Prop) (n : Nat) (m : Disk.Safe) (ps : List Disk.Pc) (ser boot f : Int) (l : List ByteArray) (e : Ending) (w' : World) : Prop :=
 e = .returned (.int .i64 0) /\ ∃ F' gw A c,DiskAt w' g F' (n + (ps ++ pcsOf f [] (ptx l.length l)).length) (syncM m (ps ++ pcsOf f [] (ptx l.length l))) [] ser boot /\ WAt w' gw g (f + lastOf (cur [] (ptx l.length l))) /\ PAt w' gp (.pointer (some ⟨gw,0,none⟩)) g f (.slice A l.length c) /\
  NewSl 9 1 w.heap.size w' A l.length c (l.map Value.string) /\ w.heap.size <= gw /\ Grows w F F' /\ Kept (fun k => F k \/ k = gp) w w'
section
variable {F : Nat -> Prop} {w : World} {g gp n : Nat} {m : Disk.Safe} {ps : List Disk.Pc} {ser boot f first : Int}
theorem curT_le (T : List (List UInt8)) : lastOf (cur [] T) <= T.length := by
 have h1 := lastOf_le (cur [] T)
 have h2 := cur_grow [] T
 simp at h2
 omega
structure BAt (w : World) (gp g be : Nat) (F : Nat -> Prop) (n : Nat) (m : Disk.Safe) (ps : List Disk.Pc) (ser boot f : Int) (gw : Nat) (T : List (List UInt8)) (F' : Nat -> Prop) (wr : World) : Prop where
 d : DiskAt wr g F' n m (ps ++ pcsOf f [] T) ser boot
 wl : WAt wr gw g (f + lastOf (cur [] T))
 grows : Grows w F F'
 k : Kept F w wr
 be : Has wr be 27 #[.int .i64 0]
theorem BAt.app {be gw : Nat} {T : List (List UInt8)} {F' : Nat -> Prop} {wr w3 : World} (h : BAt w gp g be F n m ps ser boot f gw T F' wr) (hl : Log f [] T m (ps ++ pcsOf f [] T)) (hgw : w.heap.size <= gw) {t : List UInt8} {F3 : Nat -> Prop}
  (hd : DiskAt w3 g F3 n m (ps ++ pcsOf f [] T ++ [(f + lastOf (cur [] T),ofL (frameL t))]) ser boot) (hg : Grows wr F' F3) (hw : WAt w3 gw g (f + lastOf (cur [] (T ++ [t])))) (hk : Kept (fun k => F' k \/ k = gw) wr w3) : BAt w gp g be F n m ps ser boot f gw (T ++ [t]) F3 w3 := by
 refine ⟨?_,hw,h.grows.trans hg h.k.size,h.k.trans hk (fun k hk => ?_),h.be.kept hk (fun hf => ?_)⟩
 ·rw [pcsOf_snoc,<- List.append_assoc];exact hd
 ·rcases hk with hk | rfl
  ·exact h.grows k hk
  ·exact .inr hgw
 ·rcases hf with hf | rfl
  ·exact DiskAt.not h.d h.be (by decide) (by decide) hf
  ·exact h.be.ne h.wl (by decide) rfl
theorem BAt.keep {be gw : Nat} {T : List (List UInt8)} {F' : Nat -> Prop} {wr w3 : World} (h : BAt w gp g be F n m ps ser boot f gw T F' wr) (hk : Kept NoF wr w3) : BAt w gp g be F n m ps ser boot f gw T F' w3 :=
 ⟨h.d.kept hk (fun _ _ z => z),h.wl.kept hk (fun z => z),h.grows,h.k.then (hk.mono (fun _ z => z.elim)),h.be.kept hk (fun z => z)⟩
theorem log_of {T : List (List UInt8)} (h : Log f [] [] m ps) (hT : ∀ t ∈ T,t.length <= 65536) : Log f [] T m (ps ++ pcsOf f [] T) := by
 refine ⟨h.safe,?_,h.ok,hT⟩
 have h1 : (pcsOf f [] T).filter (mine f) = pcsOf f [] T := List.filter_eq_self.2 (fun p hp => by
  have := pcsOf_mem f [] T hT p hp
  simpa [mine] using this.2.1)
 rw [List.filter_append,h1,h.rest]
 rfl
theorem fits_of {T : List (List UInt8)} (h : Fits n m ps) (hT : ∀ t ∈ T,t.length <= 65536) (h1 : 1 <= f) (h2 : f + T.length <= 1073741824) (h3 : ps.length + T.length < 100000) : Fits n m (ps ++ pcsOf f [] T) := by
 refine ⟨h.n,by rw [List.length_append,pcsOf_len];exact h3,h.file,fun p hp => ?_⟩
 rcases List.mem_append.1 hp with hp | hp
 ·exact h.pc p hp
 ·obtain ⟨h4,h5,h6⟩ := pcsOf_mem f [] T hT p hp
  simp at h6
  exact ⟨h4,by omega,by omega⟩
theorem bat_append {be gw : Nat} {T : List (List UInt8)} {F' : Nat -> Prop} {wr : World} (h : BAt w gp g be F n m ps ser boot f gw T F' wr) (hl : Log f [] [] m ps) (hf : Fits n m ps) (hT : ∀ t ∈ T,t.length <= 65536) (hgw : w.heap.size <= gw) (h1 : 1 <= f) (h2 : f + T.length <= 1073741824) (h3 : ps.length + T.length < 100000) (s : ByteArray) (hs : s.size <= 65536) :
  Calls Tryz.prog 143 #[.pointer (some ⟨gw,0,none⟩),.string s] wr fun e w' => e = .returned (.int .i64 0) /\ ∃ F3,BAt w gp g be F n m ps ser boot f gw (T ++ [bl s]) F3 w' := by
 have hlog := log_of hl hT
 have hct := curT_le T
 refine (lappend_any h.d h.wl hlog (fits_of hf hT h1 h2 h3) h1 (by omega) s hs).mono ?_
 rintro e w3 ⟨he,F3,hd,hg,hw,hk⟩
 exact ⟨he,F3,h.app hlog hgw hd hg hw hk⟩
end
end Pt
namespace Pt
open Disk Fr Vn Ops Wl
section
variable {F : Nat -> Prop} {w : World} {g gp n : Nat} {m : Disk.Safe} {ps : List Disk.Pc} {ser boot f first : Int}
theorem cat80 (p : List UInt8) : (⟨#[80]⟩ : ByteArray) ++ ofL p = ofL (80 :: p) := ofL_cat [80] p
theorem cat84 (s : ByteArray) : (⟨#[84]⟩ : ByteArray) ++ s = ofL (84 :: bl s) := by
 have := ofL_cat [84] (bl s)
 rw [ofL_bl] at this
 exact this
theorem begin_any (v0 v3 : Value) (hp : PAt w gp v0 g first v3) (hd : DiskAt w g F n m ps ser boot) (hlog : Log f [] [] m ps) (hf : Fits n m ps) (A : Option Addr) (c : Nat) (l : List ByteArray) (hA : Src w 1 A l.length (l.map Value.string))
  (hAF : 0 < l.length -> ∀ ad,A = some ad -> ¬ F ad.block /\ ad.block ≠ gp) (hs : ∀ s ∈ l,s.size < 65536) (h1 : 1 <= f) (h2 : f + l.length + 2 <= 1073741824) (h3 : ps.length + l.length + 2 < 100000) :
  Calls Tryz.prog 84 #[.pointer (some ⟨gp,0,none⟩),.int .i64 f,.slice A l.length c] w (BeginPost w gp g F n m ps ser boot f l) := by
 have hmf : ∀ (fn : Fn) (first cap : Array Value) (w : World),(Instr.makeFunc fn first cap).run Tryz.prog w = .ok (.func fn first cap) w := fun _ _ _ _ => rfl
 obtain ⟨R,hR⟩ : ∃ R,BeginPost w gp g F n m ps ser boot f l = R := ⟨_,rfl⟩
 rw [hR]
 have HR := hZ0 hR
 obtain ⟨W1,hW1⟩ : ∃ W1,w.alloc (.cells #[.int .i64 0] 27) = W1 := ⟨_,rfl⟩
 have hk1 : Kept NoF w W1 := by rw [<- hW1];exact (Kept.refl _ _).alloc _
 have hbe : Has W1 w.heap.size 27 #[.int .i64 0] := by rw [<- hW1];exact Has.new _ _ _
 have hd1 := hd.kept hk1 (fun _ _ z => z)
 have hp1 := hp.kept hk1 (fun z => z)
 have c1 : w.cell? ⟨gp,1,none⟩ = some (.pointer (some ⟨g,0,none⟩)) := hp.cell 1
 have hgl := hp.lt
 have hgpF : ¬ F gp := DiskAt.not hd hp (by decide) (by decide)
 have hop := lopen_any hd1 hlog hf h1 (by omega) (by decide)
 have hput := fun W => vput_any l.length (by omega) W
 have hpl := put_le (n := l.length) (by omega)
 obtain ⟨p,hpe⟩ : ∃ p,put l.length = p := ⟨_,rfl⟩
 rw [hpe] at hput hpl
 have HW1 := hZ0 hW1;have HK1 := hZ0 hk1;have HBE := hZ0 hbe;have HD := hZ0 hd;have HP := hZ0 hp;have HOP := hZ0 hop;have HPUT := hZ0 hput;have HPL := hZ0 hpl;have HPE := hZ0 hpe
 have HLOG := hZ0 hlog;have HF := hZ0 hf;have HA := hZ0 hA;have HAF := hZ0 hAF;have HS := hZ0 hs;have HGF := hZ0 hgpF
 have hpz : (ofL p).size = p.length := ofL_sz p
 have q1 : ¬ 9223372036854775807 < (⟨#[80]⟩ : ByteArray).size + (ofL p).size := by rw [hpz];show ¬ _ < 1 + _;omega
 clear hR hW1 hk1 hbe hd1 hp1 hd hp hop hput hpl hpe hlog hf hA hAF hs hgpF hpz
 go_enter_defers Tryz.func84,Tryz.ntmps84
 go_wp2_with fail
 rw [HW1.out]
 refine HOP.out.mono ?_
 rintro e w2 ⟨gw,A2,c2,rfl,hwl,hgw,-,hb2⟩
 have hk2 : Kept NoF w w2 := HK1.out.then (Kept.of_below hb2 (fun k hk _ => hk))
 have hbat : BAt w gp g w.heap.size F n m ps ser boot f gw [] F w2 := ⟨by show DiskAt w2 g F n m (ps ++ []) ser boot;rw [List.append_nil];exact HD.out.kept hk2 (fun _ _ z => z),hwl,Grows.refl _ _,hk2.mono (fun _ z => z.elim),HBE.out.kept (Kept.of_below (F := NoF) hb2 (fun k hk _ => hk)) (fun z => z)⟩
 have hgw2 : w.heap.size <= gw := Nat.le_trans HK1.out.size hgw
 have HB := hZ0 hbat
 clear hwl hgw hb2 hk2 hbat c1
 go_wp2_with fail
 refine (must_ok _).mono ?_
 rintro e w' ⟨rfl,rfl⟩
 go_wp2_with fail
 refine (HPUT.out _).mono ?_
 rintro e w3 ⟨rfl,hk3⟩
 have HB3 := hZ0 (HB.out.keep hk3)
 have hnt : ∀ t ∈ ([] : List (List UInt8)),t.length <= 65536 := fun t ht => by cases ht
 have hap := bat_append HB3.out HLOG.out HF.out hnt hgw2 h1 (by simp;omega) (by simp;omega) (ofL (80 :: p)) (by rw [ofL_sz];simp;have := HPL.out;omega)
 have e1 : ([] : List (List UInt8)) ++ [bl (ofL (80 :: p))] = ptx l.length (l.take 0) := by rw [bl_ofL,<- HPE.out];rfl
 rw [e1] at hap
 have HAP := hZ0 hap
 clear hk3 hap e1 hnt
 go_wp2_with fail
 rw [cat80]
 refine HAP.out.mono ?_
 rintro e w4 ⟨rfl,F4,hb4⟩
 have HB4 := hZ0 hb4
 clear hb4 q1
 go_wp2_with fail
 refine (must_ok _).mono ?_
 rintro e w' ⟨rfl,rfl⟩
 go_wp2_with fail
 go_loopw [35] (fun v35 wr => ∃ (i : Nat) (F' : Nat -> Prop),i <= l.length /\ v35 = .int .i64 i /\ BAt w gp g w.heap.size F n m ps ser boot f gw (ptx l.length (l.take i)) F' wr) (fun v35 _ => l.length - (intOf v35).toNat)
 case atStart => exact ⟨0,F4,Nat.zero_le _,rfl,HB4.out⟩
 case round =>
  obtain ⟨i,F',hi,rfl,hb⟩ := hrel
  have HBR := hZ0 hb
  have hsrc : Src wr 1 A l.length (l.map Value.string) := Src.keptIf HA.out hb.k (fun h0 ad e => (HAF.out h0 ad e).1)
  have hpr := HP.out.kept hb.k HGF.out
  have HSRC := hZ0 hsrc;have HPR := hZ0 hpr
  have hTi : ∀ t ∈ ptx l.length (l.take i),t.length <= 65536 := by
   intro t ht
   unfold ptx at ht
   rcases List.mem_cons.1 ht with rfl | ht
   ·rw [HPE.out];simp;have := HPL.out;omega
   ·rw [List.mem_map] at ht
    obtain ⟨s,hs,rfl⟩ := ht
    have := HS.out s (List.mem_of_mem_take hs)
    simp [size_bl];omega
  have hTl : (ptx l.length (l.take i)).length <= l.length + 1 := by rw [ptx_len,List.length_take];omega
  have HTI := hZ0 hTi;have HTL := hZ0 hTl
  clear hb hsrc hpr hTi hTl
  by_cases hil : i < l.length
  ·obtain ⟨s,hs⟩ : ∃ s,l[i]? = some s := ⟨_,List.getElem?_eq_getElem hil⟩
   obtain ⟨ad,rfl,-,e0⟩ := SlI.str_cells HSRC.out (by omega) i s hs
   have hs6 : s.size < 65536 := HS.out s (List.mem_of_getElem? hs)
   have q1 : ¬ 9223372036854775807 < (⟨#[84]⟩ : ByteArray).size + s.size := by show ¬ _ < 1 + _;omega
   have hap := bat_append HBR.out HLOG.out HF.out HTI.out hgw2 h1 (by have := HTL.out;omega) (by have := HTL.out;omega) (ofL (84 :: bl s)) (by rw [ofL_sz];simp [size_bl];omega)
   have e1 : ptx l.length (l.take i) ++ [bl (ofL (84 :: bl s))] = ptx l.length (l.take (i + 1)) := by rw [bl_ofL,Disk.take_snoc hs,ptx_snoc]
   rw [e1] at hap
   have HAP := hZ0 hap
   clear hs hs6 hap e1
   go_wp2_with fail
   rw [cat84]
   refine HAP.out.mono ?_
   rintro e w5 ⟨rfl,F5,hb5⟩
   have HB5 := hZ0 hb5
   clear hb5 q1
   go_wp2_with fail
   refine (must_ok _).mono ?_
   rintro e w' ⟨rfl,rfl⟩
   go_wp2
   go_roundw
   case rel => exact ⟨i + 1,F5,by omega,by go_num,HB5.out⟩
   case measure => simp [intOf];omega
  ·obtain rfl : i = l.length := by omega
   rw [List.take_length] at HBR HTI HTL
   have hfi := fits_of HF.out HTI.out h1 (by have := HTL.out;omega) (by have := HTL.out;omega)
   have htt := hfi.total
   have hsy := sync_any HBR.out.d hfi.i64 (by have := hfi.len;omega) (by have := hfi.n;omega) 100000 hfi.file (by omega)
   have d1 : wr.cell? ⟨gp,1,none⟩ = some (.pointer (some ⟨g,0,none⟩)) := HPR.out.cell 1
   have HSY := hZ0 hsy
   clear hfi htt hsy
   go_wp2_with fail
   refine HSY.out.mono ?_
   rintro e w5 ⟨rfl,hd5,hk5⟩
   have hkw5 : Kept F w w5 := HBR.out.k.trans hk5 (fun k hk => HBR.out.grows k hk)
   have hsr5 := Src.keptIf HA.out hkw5 (fun h0 ad e => (HAF.out h0 ad e).1)
   have hpr5 := HP.out.kept hkw5 HGF.out
   have hbe5 := HBR.out.be.kept hk5 (fun hf => DiskAt.not HBR.out.d HBR.out.be (by decide) (by decide) hf)
   have hwl5 := HBR.out.wl.kept hk5 (fun hf => DiskAt.ne HBR.out.d HBR.out.wl hf)
   have HKW5 := hZ0 hkw5;have HP5 := hZ0 hpr5;have HBE5 := hZ0 hbe5;have HWL5 := hZ0 hwl5;have HD5 := hZ0 hd5
   have hcl := clone_any w5 A c l hsr5 (by omega)
   have HCL := hZ0 hcl
   clear hkw5 hsr5 hpr5 hbe5 hwl5 hcl hd5 hk5 d1
   go_wp2_with fail
   refine HCL.out.mono ?_
   rintro e w6 ⟨A6,c6,rfl,hn6,hb6⟩
   have hk56 : Kept NoF w5 w6 := Kept.of_below hb6 (fun k hk _ => hk)
   have hp6 := HP5.out.kept hk56 (fun z => z)
   have hbe6 := HBE5.out.kept hk56 (fun z => z)
   have g0 := hp6.frozen 0
   have g2 := hp6.frozen 2
   have g3 := hp6.frozen 3
   have x0 : w6.cell? ⟨gp,0,none⟩ = some v0 := hp6.cell 0
   have x2 : w6.cell? ⟨gp,2,none⟩ = some (.int .i64 first) := hp6.cell 2
   have x3 : w6.cell? ⟨gp,3,none⟩ = some v3 := hp6.cell 3
   have y0 : w6.cell? ⟨w.heap.size,0,none⟩ = some (.int .i64 0) := hbe6.cell 0
   have z0 := hbe6.frozen 0
   have hne : gp ≠ w.heap.size := by omega
   have HP6 := hZ0 hp6;have HBE6 := hZ0 hbe6;have HK6 := hZ0 hk56;have HN6 := hZ0 hn6
   clear hp6 hbe6 hk56 hn6 hb6
   go_wp2_with fail
   obtain ⟨W7,hW7⟩ : ∃ W7,(((w6.setCell ⟨gp,0,none⟩ (.pointer (some ⟨gw,0,none⟩))).setCell ⟨gp,2,none⟩ (.int .i64 f)).setCell ⟨gp,3,none⟩ (.slice A6 l.length c6)).setCell ⟨w.heap.size,0,none⟩ (.int .i64 0) = W7 := ⟨_,rfl⟩
   have hkS : Kept (fun k => k = gp \/ k = w.heap.size) w6 W7 := by rw [<- hW7];exact ((((Kept.refl _ w6).put (.inl (.inl rfl))).put (.inl (.inl rfl))).put (.inl (.inl rfl))).put (.inl (.inr rfl))
   have hp7 : PAt W7 gp (.pointer (some ⟨gw,0,none⟩)) g f (.slice A6 l.length c6) := by rw [<- hW7];exact (((HP6.out.put 0 (.pointer (some ⟨gw,0,none⟩))).put 2 (.int .i64 f)).put 3 (.slice A6 l.length c6)).past hne
   have hbe7 : Has W7 w.heap.size 27 #[.int .i64 0] := by rw [<- hW7];exact (((HBE6.out.past (fun e => hne e.symm)).past (fun e => hne e.symm)).past (fun e => hne e.symm)).put_of rfl
   rw [hW7]
   have u0 : W7.cell? ⟨w.heap.size,0,none⟩ = some (.int .i64 0) := hbe7.cell 0
   have hfin : R (.returned (.int .i64 0)) W7 := by
    rw [<- HR.out]
    have hkn : ∀ k,F' k -> k ≠ gp /\ k ≠ w.heap.size := fun k hk => ⟨fun e => DiskAt.not HD5.out HP5.out (by decide) (by decide) (e ▸ hk),fun e => DiskAt.not HD5.out HBE5.out (by decide) (by decide) (e ▸ hk)⟩
    refine ⟨rfl,F',gw,A6,c6,(HD5.out.kept HK6.out (fun _ _ z => z)).kept hkS (fun k hk h => by rcases h with h | h;exact (hkn k hk).1 h;exact (hkn k hk).2 h),(HWL5.out.kept HK6.out (fun z => z)).kept hkS (fun h => ?_),hp7,⟨own_kept HN6.out.1 hkS (fun k hk h => ?_),fun k hk => Nat.le_trans HKW5.out.size (HN6.out.2 k hk)⟩,hgw2,HBR.out.grows,?_⟩
    ·rcases h with h | h
     ·exact HP5.out.ne HWL5.out (by decide) h.symm
     ·exact HBE5.out.ne HWL5.out (by decide) h.symm
    ·have h8 := HN6.out.2 k hk
     have h9 := HP5.out.lt
     have h10 := HBE5.out.lt
     rcases h with h | h <;> omega
    ·exact ((HKW5.out.mono (fun k h => .inl h)).then (HK6.out.mono (fun _ z => z.elim))).trans hkS (fun k h => by rcases h with h | h;exact .inl (.inr h);exact .inr (by omega))
   have HFIN := hZ0 hfin
   clear hfin hkS hp7 hbe7 hW7
   refine leaves_cons (f := 140) (args := #[.pointer (some ⟨w.heap.size,0,none⟩)]) (by simp) (by simp [go_sem]) ?_
   refine (idleBegin _ _).mono ?_
   rintro e u w8 ⟨rfl,rfl,rfl⟩
   simp [Leaves,settle,results,Tryz.results84,go_sem,u0]
   exact HFIN.out
end
end Pt
end Go.Proofs.YtgffjliedjhbaaaGreat

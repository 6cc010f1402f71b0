/- Part 50 of what the proof needs. -/
import Derived.Test.YtolkgbafebehfaaGreatHP17
import Derived.Test.YtolkgbafebehfaaGreatHP48
import Derived.Deep.RegionHeld3
set_option linter.unusedSimpArgs false
set_option linter.unusedVariables false
set_option maxHeartbeats 32000000
set_option maxRecDepth 100000
namespace Go.Proofs.YtolkgbafebehfaaGreat
open Go.RowKit Go.Shelf Go.Maps
set_option maxRecDepth 100000
namespace Plan
theorem first_eg : ∀ args w,(callFunc 255 args).run Tryz.prog w = .ok (.enter 255 args) w := enters_of Tryz.func255 (by kernel_rfl) rfl
theorem rest_eg : ∀ args w,(callFunc 256 args).run Tryz.prog w = .ok (.enter 256 args) w := enters_of Tryz.func256 (by kernel_rfl) rfl
theorem NewRow.lt {b : Nat} {w : World} {A : Option Addr} {n c : Nat} {l : List Mem} (h : NewRow b w A n c l) {k : Nat} (hk : RowOf (.slice A n c) k) : k < w.heap.size := own_lt h.2.1 hk
theorem NewInts.lt {b : Nat} {w : World} {A : Option Addr} {n c : Nat} {l : List Int} (h : NewInts b w A n c l) {k : Nat} (hk : RowOf (.slice A n c) k) : k < w.heap.size := own_lt h.2.1 hk
theorem NewRow.off {b : Nat} {w : World} {A : Option Addr} {n c : Nat} {l : List Mem} (h : NewRow b w A n c l) {g : Nat} {t : TypeId} {cs : Array Value} (hg : Has w g t cs) (hne : 53 ≠ t) : ¬ RowOf (.slice A n c) g := h.ne hg hne
theorem NewInts.off {b : Nat} {w : World} {A : Option Addr} {n c : Nat} {l : List Int} (h : NewInts b w A n c l) {g : Nat} {t : TypeId} {cs : Array Value} (hg : Has w g t cs) (hne : 3 ≠ t) : ¬ RowOf (.slice A n c) g := own_ne h.2.1 hg hne
theorem pnext_any (w : World) (ep fl : Int) (A0 A1 A2 A3 : Option Addr) (c0 c1 c2 c3 : Nat) (l j : List Mem) (t g : List Int) (last : Int) (hl : Src w 2 A0 l.length (mcells l)) (ht : Src w 1 A1 t.length (ints t)) (hg : Src w 1 A2 g.length (ints g)) (hj : Src w 2 A3 j.length (mcells j))
  (hll : l.length <= 1000) (htl : t.length <= 1000) (hgl : g.length <= 1000) (hjl : j.length <= 1000) (hfl : 0 <= fl /\ fl <= maxTs) (hla : 0 <= last /\ last <= maxTs) (hcap : l.length <= c0) (hcm : c0 <= 9223372036854775807)
  (hti : ∀ x ∈ t,I64 x) (hgi : ∀ x ∈ g,I64 x) (hli : ∀ m ∈ l,I64 m.1) :
  Calls Tryz.prog 149 #[cagg ep A0 l.length c0 fl,.slice A1 t.length c1,.slice A2 g.length c2,.slice A3 j.length c3,.int .u64 last] w (NextPost w (nextOf ep l fl t g j last)) := by
 have HL := hZ0 hl;clear hl
 have HT := hZ0 ht;clear ht
 have HG := hZ0 hg;clear hg
 have HJ := hZ0 hj;clear hj
 have HFL := hZ0 hfl;clear hfl
 have HLA := hZ0 hla;clear hla
 have HTI := hZ0 hti;clear hti
 have HGI := hZ0 hgi;clear hgi
 have HLI := hZ0 hli;clear hli
 have hn0 := (Has.new w 25 #[.int .i64 ep,.slice A0 l.length c0,.int .u64 fl]).alloc (.cells #[.int .i64 0,.slice none 0 0,.int .u64 0] 25)
 have hn1 := Has.new (w.alloc (.cells #[.int .i64 ep,.slice A0 l.length c0,.int .u64 fl] 25)) 25 #[.int .i64 0,.slice none 0 0,.int .u64 0]
 rw [size_alloc] at hn1
 have HN0 := hZ0 hn0;clear hn0
 have HN1 := hZ0 hn1;clear hn1
 have hk01 : Kept NoF w ((w.alloc (.cells #[.int .i64 ep,.slice A0 l.length c0,.int .u64 fl] 25)).alloc (.cells #[.int .i64 0,.slice none 0 0,.int .u64 0] 25)) := ((Kept.refl _ _).alloc _).alloc _
 have HK01 := hZ0 hk01;clear hk01
 have hck := check_any ((w.alloc (.cells #[.int .i64 ep,.slice A0 l.length c0,.int .u64 fl] 25)).alloc (.cells #[.int .i64 0,.slice none 0 0,.int .u64 0] 25)) ep fl A0 c0 l (HL.out.kept HK01.out (fun _ _ x => x)) (by omega) hcap hcm
 obtain ⟨ck,hckv⟩ : ∃ ck,chk ep l = ck := ⟨_,rfl⟩
 rw [hckv] at hck
 have HC := hZ0 hck;clear hck
 by_cases hc0 : ck = 0
 rotate_left
 ·have hN : nextOf ep l fl t g j last = ⟨ck,0,[],0,[]⟩ := by unfold nextOf;rw [hckv,if_pos hc0]
  have HNX := hZ0 hN;clear hN hckv
  have b1 : (ck != 0) = true := by simpa using hc0
  have b2 : (ck == 0) = false := by simpa using hc0
  go_enter Tryz.func149,Tryz.ntmps149
  go_wp2_with fail
  refine HC.out.mono ?_
  rintro e w2 ⟨rfl,hk⟩
  have hr := HN1.out.kept hk (fun x => x)
  have hk2 := HK01.out.then hk
  have HK2 := hZ0 hk2;clear hk2 hk
  have HR := hZ0 hr;clear hr
  have r0 : w2.cell? ⟨w.heap.size + 1,0,none⟩ = some (.int .i64 0) := HR.out.cell 0
  have r1 : w2.cell? ⟨w.heap.size + 1,1,none⟩ = some (.slice none 0 0) := HR.out.cell 1
  have r2 : w2.cell? ⟨w.heap.size + 1,2,none⟩ = some (.int .u64 0) := HR.out.cell 2
  have f0 := HR.out.frozen 0
  have f1 := HR.out.frozen 1
  have f2 := HR.out.frozen 2
  go_wp2
  refine bodyPost_ret (v := .tuple #[.agg #[.int .i64 0,.slice none 0 0,.int .u64 0],.slice none 0 0,.int .i64 ck]) (by simp [results,Tryz.results149,go_sem,r0,r1,r2]) rfl (?_ : NextPost w (nextOf ep l fl t g j last) _ _)
  rw [HNX.out]
  exact ⟨none,0,0,none,0,0,rfl,NewRow.nil _ _,NewInts.nil _ _,by (repeat' (first | (with_reducible first | exact kR0 | apply kP0 | apply kN0 | apply kD0 | apply kA0) | (exact HK2.out) | (right;simp;done)))⟩
 subst hc0
 have hsz0 : w.heap.size + 2 <= ((w.alloc (.cells #[.int .i64 ep,.slice A0 l.length c0,.int .u64 fl] 25)).alloc (.cells #[.int .i64 0,.slice none 0 0,.int .u64 0] 25)).heap.size := by simp
 have HCK := hZ0 hckv;clear hckv
 go_enter Tryz.func149,Tryz.ntmps149
 go_wp2_with fail
 refine HC.out.mono ?_
 rintro e w2 ⟨rfl,hk⟩
 have hz2 : w.heap.size + 2 <= w2.heap.size := Nat.le_trans hsz0 hk.size
 have hr := HN1.out.kept hk (fun x => x)
 have hh := HN0.out.kept hk (fun x => x)
 have hk2 := HK01.out.then hk
 have HK2 := hZ0 hk2;clear hk2 hk hsz0
 have HR2 := hZ0 hr;clear hr
 have HH2 := hZ0 hh;clear hh HN0 HN1 HC HK01
 go_wp2_with fail
 refine (set_any w2 A1 c1 t (HT.out.kept HK2.out (fun _ _ x => x)) (by omega) HTI.out).mono ?_
 rintro e w3 ⟨⟨bt,rfl,hst,hbt⟩,hk⟩
 have hz3 := hk.size
 have hk3 := HK2.out.then hk
 have hr := HR2.out.kept hk (fun x => x)
 have hh := HH2.out.kept hk (fun x => x)
 have HK3 := hZ0 hk3;clear hk3 hk HK2
 have HR3 := hZ0 hr;clear hr HR2
 have HH3 := hZ0 hh;clear hh HH2
 have HST := hZ0 hst;clear hst
 go_wp2_with fail
 refine (set_any w3 A2 c2 g (HG.out.kept HK3.out (fun _ _ x => x)) (by omega) HGI.out).mono ?_
 rintro e w4 ⟨⟨bg,rfl,hsg,hbg⟩,hk⟩
 have hz4 := hk.size
 have hk4 := HK3.out.then hk
 have hr := HR3.out.kept hk (fun x => x)
 have hh := HH3.out.kept hk (fun x => x)
 have hst := HST.out.kept hk (fun x => x)
 have hT1 := (Has.new w4 62 #[.map (some bt)]).alloc (.cells #[.map (some bg)] 62)
 have hT2 := Has.new (w4.alloc (.cells #[.map (some bt)] 62)) 62 #[.map (some bg)]
 rw [size_alloc] at hT2
 have hka : Kept NoF w4 ((w4.alloc (.cells #[.map (some bt)] 62)).alloc (.cells #[.map (some bg)] 62)) := ((Kept.refl _ _).alloc _).alloc _
 have hk5 := hk4.then hka
 have hr5 := hr.kept hka (fun x => x)
 have hh5 := hh.kept hka (fun x => x)
 have hst5 := hst.kept hka (fun x => x)
 have hsg5 := hsg.kept hka (fun x => x)
 have hz5 : w4.heap.size + 2 = ((w4.alloc (.cells #[.map (some bt)] 62)).alloc (.cells #[.map (some bg)] 62)).heap.size := by simp
 have hp5 := pick_any ((w4.alloc (.cells #[.map (some bt)] 62)).alloc (.cells #[.map (some bg)] 62)) A0 c0 l (isFirst g t) 255 #[.pointer (some ⟨w4.heap.size + 1,0,none⟩),.pointer (some ⟨w4.heap.size,0,none⟩)] (HL.out.kept hk5 (fun _ _ x => x)) hll first_eg
  (fun W m hW hm => pfirst_any W _ _ bg bt _ _ g t m (HLI.out m hm) (hT2.kept hW (fun x => x)) (hT1.kept hW (fun x => x)) (hsg5.kept hW (fun x => x)) (hst5.kept hW (fun x => x)))
 have e1 : ((w4.alloc (.cells #[.map (some bt)] 62)).alloc (.cells #[.map (some bg)] 62)).cell? ⟨w.heap.size,1,none⟩ = some (.slice A0 l.length c0) := hh5.cell 1
 have HP5 := hZ0 hp5;clear hp5
 have HK5 := hZ0 hk5;clear hk5 hk4 hk hka HK3
 have HR5 := hZ0 hr5;clear hr5 hr HR3
 have HH5 := hZ0 hh5;clear hh5 hh HH3
 have HST5 := hZ0 hst5;clear hst5 hst HST
 have HSG5 := hZ0 hsg5;clear hsg5 hsg
 have HT1 := hZ0 hT1;clear hT1
 have HT2 := hZ0 hT2;clear hT2
 go_wp2_with fail
 refine HP5.out.mono ?_
 rintro e w6 ⟨⟨O,n,oc,rfl,hrow⟩,hk⟩
 have hz6 := hk.size
 have hk6 := HK5.out.then hk
 have hr := HR5.out.kept hk (fun x => x)
 have hh := HH5.out.kept hk (fun x => x)
 have hst := HST5.out.kept hk (fun x => x)
 have hsg := HSG5.out.kept hk (fun x => x)
 have ht1 := HT1.out.kept hk (fun x => x)
 have ht2 := HT2.out.kept hk (fun x => x)
 have hfe : l.filter (isFirst g t) = firsts l t g := rfl
 rw [hfe] at hrow
 rw [<- hz5] at hz6
 have hwb : w.heap.size <= ((w4.alloc (.cells #[.map (some bt)] 62)).alloc (.cells #[.map (some bg)] 62)).heap.size := by rw [<- hz5];omega
 have hrow := hrow.mono hwb
 clear e1 hz5 hwb hfe
 have hsize6 : w.heap.size + 2 <= w6.heap.size := by omega
 clear hz2 hz3 hz4 hz6 hbt hbg
 have HK6 := hZ0 hk6;clear hk6 hk HK5 HP5
 have HR := hZ0 hr;clear hr HR5
 have HH6 := hZ0 hh;clear hh HH5
 have HST6 := hZ0 hst;clear hst HST5
 have HSG6 := hZ0 hsg;clear hsg HSG5
 have HT16 := hZ0 ht1;clear ht1 HT1
 have HT26 := hZ0 ht2;clear ht2 HT2
 have HROW6 := hZ0 hrow;clear hrow
 have e1 : w6.cell? ⟨w.heap.size,1,none⟩ = some (.slice A0 l.length c0) := HH6.out.cell 1
 by_cases hz : n = 0
 ·have hN : nextOf ep l fl t g j last = ⟨7,0,[],0,[]⟩ := by
   unfold nextOf
   rw [if_neg (by rw [HCK.out];simp),if_pos (List.eq_nil_of_length_eq_zero (by rw [<- HROW6.out.1];exact hz))]
  have HNX := hZ0 hN;clear hN
  have b1 : ((n : Int) == 0) = true := by rw [beq_iff_eq];omega
  clear hz e1
  have r0 : w6.cell? ⟨w.heap.size + 1,0,none⟩ = some (.int .i64 0) := HR.out.cell 0
  have r1 : w6.cell? ⟨w.heap.size + 1,1,none⟩ = some (.slice none 0 0) := HR.out.cell 1
  have r2 : w6.cell? ⟨w.heap.size + 1,2,none⟩ = some (.int .u64 0) := HR.out.cell 2
  have f0 := HR.out.frozen 0
  have f1 := HR.out.frozen 1
  have f2 := HR.out.frozen 2
  go_wp2
  refine bodyPost_ret (v := .tuple #[.agg #[.int .i64 0,.slice none 0 0,.int .u64 0],.slice none 0 0,.int .i64 7]) (by simp [results,Tryz.results149,go_sem,r0,r1,r2]) rfl (?_ : NextPost w (nextOf ep l fl t g j last) _ _)
  rw [HNX.out]
  exact ⟨none,0,0,none,0,0,rfl,NewRow.nil _ _,NewInts.nil _ _,by (repeat' (first | (with_reducible first | exact kR0 | apply kP0 | apply kN0 | apply kD0 | apply kA0) | (exact HK6.out) | (right;simp;done)))⟩
 have b1 : ((n : Int) == 0) = false := by rw [beq_eq_false_iff_ne];omega
 have hnpos : 0 < n := by omega
 have hne : firsts l t g ≠ [] := by
  intro e
  have := HROW6.out.1
  rw [e] at this
  exact hz this
 have HNE := hZ0 hne;clear hne hz
 have hp6 := pick_any w6 A0 c0 l (isRest g t) 256 #[.pointer (some ⟨w4.heap.size + 1,0,none⟩),.pointer (some ⟨w4.heap.size,0,none⟩)] (HL.out.kept HK6.out (fun _ _ x => x)) hll rest_eg
  (fun W m hW hm => prest_any W _ _ bg bt _ _ g t m (HLI.out m hm) (HT26.out.kept hW (fun x => x)) (HT16.out.kept hW (fun x => x)) (HSG6.out.kept hW (fun x => x)) (HST6.out.kept hW (fun x => x)))
 have HP6 := hZ0 hp6;clear hp6
 go_wp2_with fail
 refine HP6.out.mono ?_
 rintro e w7 ⟨⟨P,m,pc,rfl,hrow2⟩,hk⟩
 have hz7 := hk.size
 have hk7 := HK6.out.then hk
 have hr := HR.out.kept hk (fun x => x)
 have hh := HH6.out.kept hk (fun x => x)
 have hrow := HROW6.out.kept hk
 have hfe : l.filter (isRest g t) = rests l t g := rfl
 rw [hfe] at hrow2
 clear e1 hfe
 have HK7 := hZ0 hk7;clear hk7 hk HK6 HP6
 clear HR
 have HR7 := hZ0 hr;clear hr
 have HH7 := hZ0 hh;clear hh HH6
 have HROW7 := hZ0 hrow;clear hrow HROW6
 have HROW27 := hZ0 hrow2;clear hrow2
 clear HST6 HSG6 HT16 HT26
 have hnm : n + m <= 1000 := by
  have h1 := len_two l g t
  have h2 := HROW7.out.1
  have h3 := HROW27.out.1
  rw [List.length_append] at h1
  omega
 have hco := concat_any (w7.alloc (.cells #[.slice O n oc,.slice P m pc] 22)) w7.heap.size O P n oc m pc (firsts l t g) (rests l t g) (Has.new w7 _ _) HROW7.out.1 HROW27.out.1 ((HROW7.out.kept ((Kept.refl NoF w7).alloc _)).src) ((HROW27.out.kept ((Kept.refl NoF w7).alloc _)).src) hnpos (by omega)
 have HCO := hZ0 hco;clear hco
 go_wp2_with fail
 refine HCO.out.mono ?_
 rintro e w8 ⟨⟨Q,k,qc,rfl,hrow3⟩,hk⟩
 have hka := ((Kept.refl NoF w7).alloc (.cells #[.slice O n oc,.slice P m pc] 22)).then hk
 have hz8 : w7.heap.size + 1 <= w8.heap.size := by have := hk.size;simp at this;omega
 have hk8 := HK7.out.then hka
 have hr := HR7.out.kept hka (fun x => x)
 have hh := HH7.out.kept hka (fun x => x)
 have hrow := HROW7.out.kept hka
 have hoff : ∀ k',RowOf (.slice O n oc) k' -> k' < w7.heap.size := fun k' h => HROW7.out.lt h
 have hbase : ∀ k',RowOf (.slice Q k qc) k' -> w7.heap.size + 1 <= k' := fun k' h => by have := hrow3.2.2 k' h;simpa using this
 have hrow3' := hrow3.mono (b' := w.heap.size) (by simp;omega)
 clear hrow3
 have HOFF := hZ0 hoff;clear hoff
 have HBASE := hZ0 hbase;clear hbase
 have HK8 := hZ0 hk8;clear hk8 hk hka HK7 HCO
 have HR8 := hZ0 hr;clear hr HR7
 have HH8 := hZ0 hh;clear hh HH7
 have HROW8 := hZ0 hrow;clear hrow HROW7 HROW27
 have HROW38 := hZ0 hrow3';clear hrow3'
 have hjo := join_any w.heap.size w8 Q A3 k qc c3 (firsts l t g ++ rests l t g) j HROW38.out (by omega) (HJ.out.kept HK8.out (fun _ _ x => x))
  (fun hpos ad had hro => by
   obtain ⟨ad',e,hlt,_⟩ := HJ.out.2 hpos
   rw [had] at e
   injection e with e
   subst e
   have := HBASE.out _ hro
   omega) (by have := len_two l g t;omega) hjl
 have HJO := hZ0 hjo;clear hjo
 go_wp2_with fail
 refine HJO.out.mono ?_
 rintro e w9 ⟨⟨R,k9,rc,rfl,hrow3⟩,hk⟩
 have hz9 := hk.size
 have hrc : Kept NoF w w9 := HK8.out.trans hk (fun i hi => .inr (by have := HBASE.out i hi;omega))
 have hr := HR8.out.kept hk (HROW38.out.off HR8.out (by decide))
 have hh := HH8.out.kept hk (HROW38.out.off HH8.out (by decide))
 have hrow := HROW8.out.far hk (fun k' h1 h2 => by have := HOFF.out k' h1;have := HBASE.out k' h2;omega)
 have hae : joinAll (firsts l t g ++ rests l t g) j = allOf l t g j := rfl
 rw [hae] at hrow3
 clear hae
 have HK9 := hZ0 hrc;clear hrc hk HK8 HJO
 have HR := hZ0 hr;clear hr HR8
 have HH9 := hZ0 hh;clear hh HH8
 have HROW9 := hZ0 hrow;clear hrow HROW8 HROW38
 have HALL9 := hZ0 hrow3;clear hrow3 HOFF HBASE
 have hlenA : (allOf l t g j).length <= 5000 := by
  have h1 : ∀ (a : List Mem) (b : List Mem),(joinAll b a).length <= b.length + a.length := by
   intro a
   induction a with
   | nil => intro b;simp [joinAll]
   | cons x a ih =>
    intro b
    have h2 := ih (joinOne b x)
    have h3 : (joinOne b x).length <= b.length + 1 := by unfold joinOne;split <;> simp
    have h4 : joinAll b (x :: a) = joinAll (joinOne b x) a := rfl
    rw [h4,List.length_cons]
    omega
  have h2 := h1 j (firsts l t g ++ rests l t g)
  have h3 := len_two l g t
  unfold allOf
  omega
 have heq := eqs_any w9 R A0 rc c0 k9 l.length (allOf l t g j) l HALL9.out.1 rfl HALL9.out.src (HL.out.kept HK9.out (fun _ _ x => x)) (by omega) (by omega)
 obtain ⟨eb,heb⟩ : ∃ eb,eqL (allOf l t g j) l = eb := ⟨_,rfl⟩
 rw [heb] at heq
 have HEQ := hZ0 heq;clear heq
 have e1 : w9.cell? ⟨w.heap.size,1,none⟩ = some (.slice A0 l.length c0) := HH9.out.cell 1
 clear HT HG HJ hlenA
 cases eb
 rotate_left
 ·have hN : nextOf ep l fl t g j last = ⟨20,0,[],0,[]⟩ := by
   unfold nextOf
   unfold eqL at heb
   rw [if_neg (by rw [HCK.out];simp),if_neg HNE.out,if_pos (by simpa using heb)]
  have HNX := hZ0 hN;clear hN heb
  go_wp2_with fail
  refine HEQ.out.mono ?_
  rintro e w10 ⟨rfl,hk⟩
  have hr := HR.out.kept hk (fun x => x)
  have hk4 := HK9.out.then hk
  clear hk HR e1
  have HR := hZ0 hr;clear hr
  have HK4 := hZ0 hk4;clear hk4
  have r0 : w10.cell? ⟨w.heap.size + 1,0,none⟩ = some (.int .i64 0) := HR.out.cell 0
  have r1 : w10.cell? ⟨w.heap.size + 1,1,none⟩ = some (.slice none 0 0) := HR.out.cell 1
  have r2 : w10.cell? ⟨w.heap.size + 1,2,none⟩ = some (.int .u64 0) := HR.out.cell 2
  have f0 := HR.out.frozen 0
  have f1 := HR.out.frozen 1
  have f2 := HR.out.frozen 2
  go_wp2
  refine bodyPost_ret (v := .tuple #[.agg #[.int .i64 0,.slice none 0 0,.int .u64 0],.slice none 0 0,.int .i64 20]) (by simp [results,Tryz.results149,go_sem,r0,r1,r2]) rfl (?_ : NextPost w (nextOf ep l fl t g j last) _ _)
  rw [HNX.out]
  exact ⟨none,0,0,none,0,0,rfl,NewRow.nil _ _,NewInts.nil _ _,by (repeat' (first | (with_reducible first | exact kR0 | apply kP0 | apply kN0 | apply kD0 | apply kA0) | (exact HK4.out) | (right;simp;done)))⟩
 have hneq : allOf l t g j ≠ l := by
  unfold eqL at heb
  simpa using heb
 have HNEQ := hZ0 hneq;clear hneq heb
 by_cases hmx : 1073741824 <= ep
 ·have hN : nextOf ep l fl t g j last = ⟨5,0,[],0,[]⟩ := by
   unfold nextOf
   rw [if_neg (by rw [HCK.out];simp),if_neg HNE.out,if_neg HNEQ.out,if_pos hmx]
  have HNX := hZ0 hN;clear hN
  go_wp2_with fail
  refine HEQ.out.mono ?_
  rintro e w10 ⟨rfl,hk⟩
  have hr := HR.out.kept hk (fun x => x)
  have hh := HH9.out.kept hk (fun x => x)
  have hk4 := HK9.out.then hk
  clear hk HR e1
  have e0 : w10.cell? ⟨w.heap.size,0,none⟩ = some (.int .i64 ep) := hh.cell 0
  have HR := hZ0 hr;clear hr hh
  have HK4 := hZ0 hk4;clear hk4
  have r0 : w10.cell? ⟨w.heap.size + 1,0,none⟩ = some (.int .i64 0) := HR.out.cell 0
  have r1 : w10.cell? ⟨w.heap.size + 1,1,none⟩ = some (.slice none 0 0) := HR.out.cell 1
  have r2 : w10.cell? ⟨w.heap.size + 1,2,none⟩ = some (.int .u64 0) := HR.out.cell 2
  have f0 := HR.out.frozen 0
  have f1 := HR.out.frozen 1
  have f2 := HR.out.frozen 2
  go_wp2
  refine bodyPost_ret (v := .tuple #[.agg #[.int .i64 0,.slice none 0 0,.int .u64 0],.slice none 0 0,.int .i64 5]) (by simp [results,Tryz.results149,go_sem,r0,r1,r2]) rfl (?_ : NextPost w (nextOf ep l fl t g j last) _ _)
  rw [HNX.out]
  exact ⟨none,0,0,none,0,0,rfl,NewRow.nil _ _,NewInts.nil _ _,by (repeat' (first | (with_reducible first | exact kR0 | apply kP0 | apply kN0 | apply kD0 | apply kA0) | (exact HK4.out) | (right;simp;done)))⟩
 obtain ⟨fl',hfl'⟩ : ∃ fl',floorOf fl last = fl' := ⟨_,rfl⟩
 have hN : nextOf ep l fl t g j last = ⟨0,ep + 1,allOf l t g j,fl',ids (firsts l t g)⟩ := by
  unfold nextOf
  rw [if_neg (by rw [HCK.out];simp),if_neg HNE.out,if_neg HNEQ.out,if_neg hmx,hfl']
 have HNX := hZ0 hN;clear hN
 have hep1 : 1 <= ep := (chk_zero HCK.out).1.1
 have hfo := fun W => pfloor_any W fl last HFL.out HLA.out
 rw [hfl'] at hfo
 have hfq : ∀ W,Calls Tryz.prog 260 #[.int .u64 fl,.int .u64 last] W (fun e w'' => e = .returned (.int .u64 fl') /\ w'' = W) := fun W => (hfo W).mono fun e w' h => ⟨h.1,h.2.symm⟩
 have HFO := hZ0 hfq;clear hfo hfq hfl'
 have hSle : (firsts l t g).length <= 1000 := by have := List.length_filter_le (isFirst g t) l;unfold firsts;omega
 have hidse : ids (firsts l t g) = ((firsts l t g).map (·.1)).mergeSort fun x y => decide (x <= y) := rfl
 rw [hidse] at HNX
 clear hidse
 obtain ⟨S,hS⟩ : ∃ S,firsts l t g = S := ⟨_,rfl⟩
 rw [hS] at HNX hSle HROW9
 clear hS HNE HNEQ HL HFL HLA HCK HTI HGI HLI
 have hnS := HROW9.out.1
 rw [<- hnS] at hSle
 clear hnS
 go_wp2_with fail
 refine HEQ.out.mono ?_
 rintro e w10 ⟨rfl,hk⟩
 have hz10 := hk.size
 have hr := HR.out.kept hk (fun x => x)
 have hh := HH9.out.kept hk (fun x => x)
 have hrow := HROW9.out.kept hk
 have hall := HALL9.out.kept hk
 have hk10 := HK9.out.then hk
 clear hk HR e1
 have e0 : w10.cell? ⟨w.heap.size,0,none⟩ = some (.int .i64 ep) := hh.cell 0
 have HK10 := hZ0 hk10;clear hk10 HK9 HEQ
 have HR := hZ0 hr;clear hr
 have HH10 := hZ0 hh;clear hh HH9
 have HROW10 := hZ0 hrow;clear hrow HROW9
 have HALL10 := hZ0 hall;clear hall HALL9
 have hzz : w.heap.size <= w10.heap.size := by omega
 clear hz7 hz8 hz9 hz10
 go_wp2_with fail
 go_loopw [19,63] (fun v19 v63 wr => ∃ (i : Nat) (B : Option Addr) (m d : Nat),i <= n /\ v63 = .int .i64 i /\ v19 = .slice B m d /\ NewInts w10.heap.size wr B m d ((S.take i).map (·.1)) /\ Kept NoF w10 wr) (fun _ v63 _ => n - (intOf v63).toNat)
 case atStart => exact ⟨0,none,0,0,Nat.zero_le _,rfl,rfl,NewInts.nil _ _,Kept.refl _ _⟩
 case round =>
  obtain ⟨i,B,m,d,hi,rfl,rfl,hB,hk⟩ := hrel
  have hml : m <= 1000 := by have h0 := hB.1;rw [List.length_map] at h0;have := List.length_take_le i S;omega
  have HB := hZ0 hB;clear hB
  have HK := hZ0 hk;clear hk
  obtain ⟨wo,hwo⟩ : ∃ wo : World,wo = wr := ⟨_,rfl⟩
  subst hwo
  by_cases hin : i < n
  ·obtain ⟨x,hx⟩ : ∃ x,S[i]? = some x := ⟨_,List.getElem?_eq_getElem (by rw [<- HROW10.out.1];exact hin)⟩
   obtain ⟨ad,hA,had,d0,d1⟩ := mem_cells ((HROW10.out.kept HK.out).src) (by rw [<- HROW10.out.1];omega) i x hx
   subst hA
   have hsn : (S.take (i + 1)).map (·.1) = (S.take i).map (·.1) ++ [x.1] := by rw [take_snoc hx];simp
   have HSN := hZ0 hsn;clear hsn hx
   obtain ⟨x1,x2⟩ := x
   dsimp only at d0 d1 HSN
   have hS1 : Hid (m + 1 <= maxLen) := hZ0 (by unfold maxLen;omega)
   have hS2 : Hid ((m + 1) * 8 <= 140737488355328) := hZ0 (by omega)
   go_wp2_with (at_builtin;refine list_append_src elemInt (.tmp 67) (.tmp 70) rfl rfl (Value.slice B m d) rfl ((HB.out.kept (((Kept.refl _ _).alloc _).alloc _)).2.1) 1 rfl (Src.of_has (m := 1) (cs := #[.int .i64 x1]) (Has.new_at _ 3 _ (by simp)) rfl) (by intro u hu;simp at hu;subst hu;rfl) hS1.out hS2.out ?_;intro B3 d3 w12 ho3 hg3 ha3)
   have hz12 := HK.out.size
   have hn3 : NewInts w10.heap.size w12 B3 (m + 1) d3 ((S.take i).map (·.1) ++ [x1]) := (HB.out.kept (((Kept.refl _ _).alloc _).alloc _)).snoc (by simp;omega) ho3 ha3
   have hk9 : Kept NoF w10 w12 := ((HK.out.alloc _).alloc _).grown hg3 (fun k hk => .inr (HB.out.2.2 k hk))
   rw [<- HSN.out] at hn3
   clear ho3 hg3 ha3
   have HN3 := hZ0 hn3;clear hn3
   have HK9 := hZ0 hk9;clear hk9
   go_wp2
   go_roundw
   case rel => exact ⟨i + 1,B3,m + 1,d3,by omega,by go_num,rfl,HN3.out,HK9.out⟩
   case measure => simp [intOf];omega
  ·obtain rfl : i = n := by omega
   have hB' := HB.out
   rw [List.take_of_length_le (by rw [<- HROW10.out.1];omega)] at hB'
   have hso := sorti_own hB' (by simp;have := HROW10.out.1;omega)
   have hkw := HK10.out.then HK.out
   have hr := HR.out.kept HK.out (fun x => x)
   have hh := HH10.out.kept HK.out (fun x => x)
   have hall := HALL10.out.kept HK.out
   have hoff1 := hB'.off hr (by decide)
   have hoff2 := hB'.off hh (by decide)
   have hoff3 : ∀ k',RowOf (.slice B m d) k' -> w10.heap.size <= k' := fun k' h => hB'.2.2 k' h
   have hoff4 : ∀ k',RowOf (.slice R k9 rc) k' -> k' < w10.heap.size := fun k' h => HALL10.out.lt h
   have hzo := HK.out.size
   clear HR HB hB'
   have HSO := hZ0 hso;clear hso
   have HKW := hZ0 hkw;clear hkw HK HK10
   have HRW := hZ0 hr;clear hr
   have HHW := hZ0 hh;clear hh HH10
   have HALLW := hZ0 hall;clear hall HALL10 HROW10
   have HO1 := hZ0 hoff1;clear hoff1
   have HO2 := hZ0 hoff2;clear hoff2
   have HO3 := hZ0 hoff3;clear hoff3
   have HO4 := hZ0 hoff4;clear hoff4
   go_wp2_with fail
   refine HSO.out.mono ?_
   rintro e w13 ⟨rfl,hints,hk⟩
   have hr := HRW.out.kept hk HO1.out
   have hh := HHW.out.kept hk HO2.out
   have hall := HALLW.out.far hk (fun k' h1 h2 => by have := HO3.out k' h2;have := HO4.out k' h1;omega)
   have hk13 : Kept NoF w w13 := HKW.out.trans hk (fun i hi => .inr (by have := HO3.out i hi;omega))
   have e0' : w13.cell? ⟨w.heap.size,0,none⟩ = some (.int .i64 ep) := hh.cell 0
   have e2 : w13.cell? ⟨w.heap.size,2,none⟩ = some (.int .u64 fl) := hh.cell 2
   have HK13 := hZ0 hk13;clear hk13 hk
   have HR13 := hZ0 hr;clear hr HRW
   have HALL13 := hZ0 hall;clear hall HALLW hh HHW
   have HINT := hZ0 hints;clear hints
   go_wp2_with fail
   have r0 : w13.cell? ⟨w.heap.size + 1,0,none⟩ = some (.int .i64 0) := HR13.out.cell 0
   have r1 : w13.cell? ⟨w.heap.size + 1,1,none⟩ = some (.slice none 0 0) := HR13.out.cell 1
   have r2 : w13.cell? ⟨w.heap.size + 1,2,none⟩ = some (.int .u64 0) := HR13.out.cell 2
   have f0 := HR13.out.frozen 0
   have f1 := HR13.out.frozen 1
   have f2 := HR13.out.frozen 2
   go_region_held3 (fun W => W.cell? ⟨w.heap.size,0,none⟩ = some (.int .i64 ep) /\ W.cell? ⟨w.heap.size,2,none⟩ = some (.int .u64 fl)) (first | exact ⟨e0',e2⟩ | (simp [go_sem,e0',e2];done)) (first | (go_at_call 260;refine (HFO.out _).mono ?_;rintro e w' ⟨rfl,rfl⟩))
   have hwr : IntKind.i64.wrap (ep + 1) = ep + 1 := IntWalk.i64_in _ (by omega)
   go_wp2
   refine bodyPost_ret (v := .tuple #[.agg #[.int .i64 (ep + 1),.slice R k9 rc,.int .u64 fl'],.slice B m d,.int .i64 0]) (by simp [results,Tryz.results149,go_sem,r0,r1,r2,f0,f1,f2,hwr]) rfl (?_ : NextPost w (nextOf ep l fl t g j last) _ _)
   rw [HNX.out]
   have hkk : ∀ a b c,Kept (fun k => k = w.heap.size + 1) w13 (((w13.setCell ⟨w.heap.size + 1,0,none⟩ a).setCell ⟨w.heap.size + 1,1,none⟩ b).setCell ⟨w.heap.size + 1,2,none⟩ c).drew := fun a b c => (Kept.put (F := fun k => k = w.heap.size + 1) (Kept.put (F := fun k => k = w.heap.size + 1) (Kept.put (F := fun k => k = w.heap.size + 1) (Kept.refl _ _) (.inl rfl)) (.inl rfl)) (.inl rfl)).drew
   refine ⟨R,k9,rc,B,m,d,rfl,?_,?_,?_⟩
   ·exact HALL13.out.far (hkk _ _ _) (fun k hk e => HALL13.out.off HR13.out (by decide) (by rw [<- e];exact hk))
   ·have h1 := HINT.out
    exact ⟨h1.1,own_kept h1.2.1 (hkk _ _ _) (fun k hk e => h1.off HR13.out (by decide) (by rw [<- e];exact hk)),fun k hk => Nat.le_trans hzz (h1.2.2 k hk)⟩
   ·(repeat' (first | (with_reducible first | exact kR0 | apply kP0 | apply kN0 | apply kD0 | apply kA0) | (exact HK13.out) | (right;simp;done)))
end Plan
end Go.Proofs.YtolkgbafebehfaaGreat
namespace Go.Proofs.YtolkgbafebehfaaGreat
open Go.RowKit
set_option maxRecDepth 100000
namespace Mas
open Plan Vn Mst Wat IM Nte Msg
section
variable {w w' : World} {X X0 : MX} {M M0 : MR} {c k : Nat}
theorem IMap.clear1 {q : IntKind} {e t : TypeId} {b n : Nat} {f : Int -> Option Int} (h : IMap q e w b n f) (ht : Tryz.prog.underlying t = some (.map 3 e)) :
  ∃ w',(∀ ty,(Builtin.clear_ #[t] ty #[.map (some b)]).run Tryz.prog w = .ok (.tuple #[]) w') /\ IMap q e w' b n (fun _ => none) /\ Kept (fun i => i = b) w w' := by
 obtain ⟨es,c,hb⟩ := IMap.map h
 obtain ⟨w',hr,h1,h2⟩ := IMap.clear h ht 3
 have hr' := fun ty => run_clear_map ht hb ty
 have e1 : w' = ChangeMaps.setBlock w b (.map #[] c) := by
  have := (hr' 3).symm.trans hr
  injection this with _ h3
  exact h3.symm
 subst e1
 exact ⟨_,hr',h1,h2⟩
theorem SetIs.clear1 {b n : Nat} {s : Int -> Bool} (h : SetIs w b n s) :
  ∃ w',(∀ ty,(Builtin.clear_ #[62] ty #[.map (some b)]).run Tryz.prog w = .ok (.tuple #[]) w') /\ SetIs w' b n (fun _ => false) /\ Kept (fun i => i = b) w w' := by
 obtain ⟨es,c,hb⟩ := SetIs.map h
 obtain ⟨w',hr,h1,h2⟩ := SetIs.clear h 3
 have hr' := fun ty => run_clear_map (k := 3) (e := 4) Tryz.underlying62 hb ty
 have e1 : w' = ChangeMaps.setBlock w b (.map #[] c) := by
  have := (hr' 3).symm.trans hr
  injection this with _ h3
  exact h3.symm
 subst e1
 exact ⟨_,hr',h1,h2⟩
theorem row_off (hF : ∀ k,foot X M k -> k < w.heap.size) {W : World} {e : TypeId} {size n c : Nat} {A : Option Addr} {xs : List Value} (hr : W.ownsRow 0 e size (.slice A n c) n xs) (hnew : ∀ k,(Value.slice A n c).ownBlock = some k -> w.heap.size <= k) : 0 < n -> ∀ ad,A = some ad -> ¬ foot X M ad.block := by
 intro h0 ad e1 hf
 obtain ⟨g,cap,hv,_,_⟩ := hr.form h0
 rw [e1] at hv
 injection hv with hv
 injection hv with hv
 have h1 := hF _ hf
 have h2 := hnew g (by rw [e1,hv];rfl)
 rw [hv] at h1
 dsimp only at h1
 omega
theorem i64_0 (x : Int) (h : 0 <= x /\ x < 1000) : I64 x := Disk.i64_small h.1 (by omega)
theorem ms_i64 (h : StOk M.st) : ∀ m ∈ M.st.ms,I64 m.1 := by
 rcases h.inv.conf with h1 | h1
 ·rw [h1.2.1];intro m hm;cases hm
 ·intro m hm
  have := (chk_zero h1.1).2.2.2.id m hm
  exact i64_0 _ ⟨this.1,by omega⟩
theorem lg_i64 (h : StOk M.st) : ∀ x ∈ M.st.lg,I64 x := by
 rcases h.inv.conf with h1 | h1
 ·rw [h1.2.2.2];intro m hm;cases hm
 ·intro m hm
  have := (legE_zero.1 h1.2.1).1 m hm
  exact i64_0 _ ⟨this.1,by omega⟩
theorem gone_i64 (M : MR) (n : Nat) (hn : n <= 4) : ∀ x ∈ goneC M n,I64 x := by
 intro x hx
 unfold goneC at hx
 obtain ⟨y,hy,rfl⟩ := List.mem_map.1 hx
 have := List.mem_range.1 (List.mem_filter.1 hy).1
 exact i64_0 _ ⟨by omega,by omega⟩
end
end Mas
end Go.Proofs.YtolkgbafebehfaaGreat

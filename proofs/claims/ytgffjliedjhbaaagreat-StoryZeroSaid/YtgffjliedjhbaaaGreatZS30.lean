/- Part 31 of what the proof needs. -/
import Derived.Test.YtgffjliedjhbaaaGreatZS29
set_option linter.unusedSimpArgs false
set_option linter.unusedVariables false
set_option maxHeartbeats 32000000
set_option maxRecDepth 100000
namespace Go.Proofs.YtgffjliedjhbaaaGreat
open Go.RowKit Go.Shelf
set_option maxRecDepth 100000
namespace Nte
open Plan Ops Ent Vn Wire Mst Msg
def entOf (x : NoteR) : EntR := ⟨x.b.cl,x.b.req,x.oA,x.oc,x.b.ops,x.ts⟩
def putN (x : NoteR) : List UInt8 := put x.k.toNat ++
 (if x.k = 1 then putT (confR x.ep x.ms x.fl) ++ put x.lg.length ++ x.lg.flatMap (fun i => put i.toNat)
 else if x.k = 2 then put x.n.toNat ++ putT (entR (entOf x))
 else if x.k = 3 then put x.n.toNat ++ put x.at'.toNat
 else if x.k = 4 then put x.at'.toNat ++ put x.n.toNat
 else if x.k = 6 then put x.pin.id.toNat ++ put x.pin.at'.toNat ++ put x.pin.left.toNat
 else if x.k = 8 then put x.said.cl.toNat ++ put x.said.req.toNat ++ put x.said.e.toNat ++ put x.said.pin.toNat
 else put x.n.toNat)
def noteB (x : NoteR) : ByteArray := if noteE x = 0 then ofL (putN x) else emp
def NU (x : NoteR) : Prop := (0 <= x.at' /\ x.at' <= maxTs) /\ (0 <= x.pin.at' /\ x.pin.at' <= maxTs) /\ (0 <= x.fl /\ x.fl <= maxTs) /\ (0 <= x.ts /\ x.ts <= maxTs)
theorem rng_in {x : Int} (h : rngL [x] = 0) : 0 <= x /\ x <= 1073741824 := by
 unfold rngL firstE rngE at h
 by_cases hr : x < 0 \/ 1073741824 < x
 ·rw [if_pos hr] at h;simp at h
 ·omega
theorem rng_in2 {x y : Int} (h : rngL [x,y] = 0) : (0 <= x /\ x <= 1073741824) /\ (0 <= y /\ y <= 1073741824) := by
 unfold rngL firstE firstE rngE at h
 by_cases hr : x < 0 \/ 1073741824 < x
 ·rw [if_pos hr] at h;simp at h
 ·rw [if_neg hr,if_pos rfl] at h
  by_cases hs : y < 0 \/ 1073741824 < y
  ·rw [if_pos hs] at h;simp at h
  ·omega
theorem said_in {a : AnsR} (h : saidE a = 0) : (0 <= a.cl /\ a.cl < 3) /\ (0 <= a.req /\ a.req <= 1073741824) /\ (0 <= a.e /\ a.e <= 21) /\ (0 <= a.pin /\ a.pin <= 1073741824) := by
 unfold saidE at h
 by_cases h1 : a.cl < 0 \/ 3 <= a.cl
 ·rw [if_pos h1] at h;cases h
 rw [if_neg h1] at h
 by_cases h2 : rngL [a.req,a.pin] ≠ 0
 ·rw [if_pos h2] at h;exact absurd h h2
 rw [if_neg h2] at h
 have h3 := rng_in2 (Classical.not_not.1 h2)
 by_cases h4 : a.e < 0 \/ 21 < a.e
 ·rw [if_pos h4] at h;cases h
 omega
theorem leg_in {l : List Int} (h : legE l = 0) : l.length <= 4 /\ ∀ y ∈ l,0 <= y /\ y < 4 := by
 unfold legE at h
 by_cases h1 : 4 < l.length
 ·rw [if_pos h1] at h;cases h
 rw [if_neg h1] at h
 refine ⟨by omega,?_⟩
 have key : ∀ (f : Nat -> Int -> Int) (l : List Int) (i : Nat),firstE f l i = 0 -> ∀ y ∈ l,∃ j,f j y = 0 := by
  intro f l
  induction l with
  | nil => intro i _ y hy;cases hy
  | cons a l ih =>
   intro i h0 y hy
   rw [firstE] at h0
   by_cases ha : f i a = 0
   ·rw [if_pos ha] at h0
    rcases List.mem_cons.1 hy with rfl | hy
    ·exact ⟨i,ha⟩
    ·exact ih _ h0 y hy
   ·rw [if_neg ha] at h0;exact absurd h0 ha
 intro y hy
 obtain ⟨j,hj⟩ := key _ l 0 h y hy
 unfold legF at hj
 by_cases h2 : y < 0 \/ 4 <= y
 ·rw [if_pos h2] at hj;cases hj
 ·omega
section
variable {w : World} {x : NoteR}
theorem nput_bad (h : NOk w x) (h0 : noteE x ≠ 0) : Calls Tryz.prog 88 #[nagg x] w fun e w' => e = .returned (.tuple #[.string emp,.int .i64 (noteE x)]) /\ Kept NoF w w' := by
 obtain ⟨W0,hW0⟩ : ∃ W0,w.alloc (.cells (ncell x).toArray 116) = W0 := ⟨_,rfl⟩
 have hk0 : Kept NoF w W0 := by rw [<- hW0];(repeat' (first | (with_reducible first | exact kR0 | apply kP0 | apply kN0 | apply kD0 | apply kA0) | (right;simp;done)))
 have hn0 : Has W0 w.heap.size 116 (ncell x).toArray := by rw [<- hW0];exact Has.new _ _ _
 have hchk := ncheck_any W0 x (h.kept hk0)
 obtain ⟨z,hz⟩ : ∃ z,noteE x = z := ⟨_,rfl⟩
 rw [hz] at hchk h0 ⊢
 have h2 : (z != 0) = true := by simpa using h0
 have HK0 := hZ0 hk0;have HN0 := hZ0 hn0;have HC := hZ0 hchk
 clear hk0 hn0 hchk h h0 hz
 go_enter Tryz.func88,Tryz.ntmps88
 go_wp2_with (refine wpList_load_row rfl 116 (.tmp 1) rfl w.heap.size rfl 116 _ (0,0) _ HN0.out Tryz.underlying116 rfl (by kernel_rfl) ?_)
 clear hW0
 refine HC.out.mono ?_
 rintro e w2 ⟨rfl,hk⟩
 have HK := hZ0 (HK0.out.then hk);clear hk
 go_wp2
 go_ret2
 exact ⟨rfl,HK.out⟩
theorem nput_5 (h : NOk w x) (h0 : noteE x = 0) (hu : NU x) (hk : x.k = 5) : Calls Tryz.prog 88 #[nagg x] w fun e w' => e = .returned (.tuple #[.string (ofL (putN x)),.int .i64 0]) /\ Kept NoF w w' := by
 have hP : putN x = put 5 ++ (put x.n.toNat) := by unfold putN;rw [hk];rfl
 rw [hP]
 obtain ⟨W0,hW0⟩ : ∃ W0,w.alloc (.cells (ncell x).toArray 116) = W0 := ⟨_,rfl⟩
 have hk0 : Kept NoF w W0 := by rw [<- hW0];(repeat' (first | (with_reducible first | exact kR0 | apply kP0 | apply kN0 | apply kD0 | apply kA0) | (right;simp;done)))
 have hn0 : Has W0 w.heap.size 116 (ncell x).toArray := by rw [<- hW0];exact Has.new _ _ _
 have hchk := ncheck_any W0 x (h.kept hk0)
 rw [h0] at hchk
 have hq : ∀ W,Has W w.heap.size 116 (ncell x).toArray -> W.cell? ⟨w.heap.size,0,none⟩ = some (.int .i64 5) := fun W hW => by
  have h0 : W.cell? ⟨w.heap.size,0,none⟩ = some (.int .i64 x.k) := hW.cell 0
  rw [hk] at h0
  exact h0
 have hz : rngL [x.n] = 0 := by
  unfold noteE at h0
  rw [hk] at h0
  exact h0
 obtain ⟨n,hn⟩ : ∃ n : Nat,x.n = n := ⟨(x.n).toNat,by have := rng_in hz;omega⟩
 have hcn : ∀ W,Has W w.heap.size 116 (ncell x).toArray -> W.cell? ⟨w.heap.size,1,none⟩ = some (.int .i64 (n : Int)) := fun W hW => by
  have h0 : W.cell? ⟨w.heap.size,1,none⟩ = some (.int .i64 (x.n)) := hW.cell 1
  rw [hn] at h0
  exact h0
 have hbn := rng_in hz
 rw [hn] at hbn ⊢
 rw [Int.toNat_natCast]
 have HCn := hZ0 hcn;have HBn := hZ0 hbn
 clear hcn hbn hn
 clear hz
 have HC := hZ0 hchk;have HQ := hZ0 hq;have HK0 := hZ0 hk0;have HN0 := hZ0 hn0;have HX := hZ0 h;have HU := hZ0 hu
 clear hchk hq hk0 hn0 h hu h0 hP hk
 go_enter Tryz.func88,Tryz.ntmps88
 go_wp2_with (refine wpList_load_row rfl 116 (.tmp 1) rfl w.heap.size rfl 116 _ (0,0) _ HN0.out Tryz.underlying116 rfl (by kernel_rfl) ?_)
 clear hW0
 refine HC.out.mono ?_
 rintro e w2 ⟨rfl,hk2⟩
 have HN2 := hZ0 (HN0.out.kept hk2 (fun z => z));have HK2 := hZ0 (HK0.out.then hk2);clear hk2
 have c0 := HQ.out _ HN2.out
 have hnew : ∀ W,Has W w.heap.size 116 (ncell x).toArray -> Calls Tryz.prog 151 #[] W fun e w' => ∃ g,e = .returned (.pointer (some ⟨g,0,none⟩)) /\ WS W.heap.size w' g [] [(w.heap.size,116,(ncell x).toArray)] /\ Kept NoF W w' :=
  fun W hW => new_s W _ (fun y hy => by simp at hy;subst hy;exact hW)
 have HNEW := hZ0 hnew;clear hnew
 go_wp2_with fail
 go_region_held3 (fun W => W.cell? ⟨w.heap.size,0,none⟩ = some (.int .i64 5)) (first | with_reducible exact q5 | with_reducible exact q4 | with_reducible exact c0 | (simp [go_sem,c0];done))
  (first
   | (go_at_call 151;refine (HNEW.out _ (by exact HN2.out)).mono ?_;rintro e w4 ⟨g,rfl,hw4,hkk4⟩;have q4 := HQ.out _ (hw4.has (List.mem_singleton.2 rfl));have HW4 := hZ0 hw4;have HKK4 := hZ0 hkk4;clear hw4 hkk4)
   | (go_at_call 152;refine (num_s (by exact HW4.out) 5 (by omega) (by simp)).mono ?_;rintro e w5 ⟨rfl,hw5,hb5⟩;have q5 := HQ.out _ (hw5.has (List.mem_singleton.2 rfl));have HW5 := hZ0 hw5;have HB5 := hZ0 hb5;clear hw5 hb5))
 have hk4 : Kept NoF w w4 := Kept.then (by (repeat' (first | (with_reducible first | exact kR0 | apply kP0 | apply kN0 | apply kD0 | apply kA0) | (with_reducible exact HK2.out) | (right;simp;done)))) HKK4.out
 have hle : w.heap.size <= w2.heap.size := HK2.out.size
 have hk5 : Kept NoF w w5 := behind hk4 HB5.out hle
 have hw5 := HW5.out
 simp only [List.nil_append] at hw5
 clear q4 c0 HW4 HW5 HB5 HKK4 hk4 HNEW HC
 have HW5 := hZ0 hw5;have HK5 := hZ0 hk5;have HLE := hZ0 hle;clear hw5 hk5 hle
 have hpl := putN_len (n := 5) (by omega)
 have hne : put 5 ≠ [] := by
  intro e
  have h1 := put_pos 5
  rw [e] at h1
  simp at h1
 have HH := hZ0 (And.intro hpl hne);clear hpl hne
 have u1 := HCn.out _ (HW5.out.has (List.mem_singleton.2 rfl))
 go_wp2_with fail
 refine (num_s HW5.out n (by have := HBn.out;omega) (by have := HH.out.1;omega)).mono ?_
 rintro e w6 ⟨rfl,hw6,hb6⟩
 have HWF := hZ0 hw6;have HKF := hZ0 (behind HK5.out hb6 HLE.out);clear hw6 hb6 u1 q5
 go_wp2_with fail
 refine (done_s HWF.out (by have := HH.out.2;simp;intro h;exact absurd h this)).mono ?_
 rintro e wf ⟨rfl,hbf⟩
 have HKD := hZ0 (behind HKF.out hbf HLE.out);clear hbf
 go_wp2
 go_ret2
 exact ⟨by simp only [List.append_assoc];rfl,HKD.out⟩
theorem nput_7 (h : NOk w x) (h0 : noteE x = 0) (hu : NU x) (hk : x.k = 7) : Calls Tryz.prog 88 #[nagg x] w fun e w' => e = .returned (.tuple #[.string (ofL (putN x)),.int .i64 0]) /\ Kept NoF w w' := by
 have hP : putN x = put 7 ++ (put x.n.toNat) := by unfold putN;rw [hk];rfl
 rw [hP]
 obtain ⟨W0,hW0⟩ : ∃ W0,w.alloc (.cells (ncell x).toArray 116) = W0 := ⟨_,rfl⟩
 have hk0 : Kept NoF w W0 := by rw [<- hW0];(repeat' (first | (with_reducible first | exact kR0 | apply kP0 | apply kN0 | apply kD0 | apply kA0) | (right;simp;done)))
 have hn0 : Has W0 w.heap.size 116 (ncell x).toArray := by rw [<- hW0];exact Has.new _ _ _
 have hchk := ncheck_any W0 x (h.kept hk0)
 rw [h0] at hchk
 have hq : ∀ W,Has W w.heap.size 116 (ncell x).toArray -> W.cell? ⟨w.heap.size,0,none⟩ = some (.int .i64 7) := fun W hW => by
  have h0 : W.cell? ⟨w.heap.size,0,none⟩ = some (.int .i64 x.k) := hW.cell 0
  rw [hk] at h0
  exact h0
 have hz : rngL [x.n] = 0 := by
  unfold noteE at h0
  rw [hk] at h0
  exact h0
 obtain ⟨n,hn⟩ : ∃ n : Nat,x.n = n := ⟨(x.n).toNat,by have := rng_in hz;omega⟩
 have hcn : ∀ W,Has W w.heap.size 116 (ncell x).toArray -> W.cell? ⟨w.heap.size,1,none⟩ = some (.int .i64 (n : Int)) := fun W hW => by
  have h0 : W.cell? ⟨w.heap.size,1,none⟩ = some (.int .i64 (x.n)) := hW.cell 1
  rw [hn] at h0
  exact h0
 have hbn := rng_in hz
 rw [hn] at hbn ⊢
 rw [Int.toNat_natCast]
 have HCn := hZ0 hcn;have HBn := hZ0 hbn
 clear hcn hbn hn
 clear hz
 have HC := hZ0 hchk;have HQ := hZ0 hq;have HK0 := hZ0 hk0;have HN0 := hZ0 hn0;have HX := hZ0 h;have HU := hZ0 hu
 clear hchk hq hk0 hn0 h hu h0 hP hk
 go_enter Tryz.func88,Tryz.ntmps88
 go_wp2_with (refine wpList_load_row rfl 116 (.tmp 1) rfl w.heap.size rfl 116 _ (0,0) _ HN0.out Tryz.underlying116 rfl (by kernel_rfl) ?_)
 clear hW0
 refine HC.out.mono ?_
 rintro e w2 ⟨rfl,hk2⟩
 have HN2 := hZ0 (HN0.out.kept hk2 (fun z => z));have HK2 := hZ0 (HK0.out.then hk2);clear hk2
 have c0 := HQ.out _ HN2.out
 have hnew : ∀ W,Has W w.heap.size 116 (ncell x).toArray -> Calls Tryz.prog 151 #[] W fun e w' => ∃ g,e = .returned (.pointer (some ⟨g,0,none⟩)) /\ WS W.heap.size w' g [] [(w.heap.size,116,(ncell x).toArray)] /\ Kept NoF W w' :=
  fun W hW => new_s W _ (fun y hy => by simp at hy;subst hy;exact hW)
 have HNEW := hZ0 hnew;clear hnew
 go_wp2_with fail
 go_region_held3 (fun W => W.cell? ⟨w.heap.size,0,none⟩ = some (.int .i64 7)) (first | with_reducible exact q5 | with_reducible exact q4 | with_reducible exact c0 | (simp [go_sem,c0];done))
  (first
   | (go_at_call 151;refine (HNEW.out _ (by exact HN2.out)).mono ?_;rintro e w4 ⟨g,rfl,hw4,hkk4⟩;have q4 := HQ.out _ (hw4.has (List.mem_singleton.2 rfl));have HW4 := hZ0 hw4;have HKK4 := hZ0 hkk4;clear hw4 hkk4)
   | (go_at_call 152;refine (num_s (by exact HW4.out) 7 (by omega) (by simp)).mono ?_;rintro e w5 ⟨rfl,hw5,hb5⟩;have q5 := HQ.out _ (hw5.has (List.mem_singleton.2 rfl));have HW5 := hZ0 hw5;have HB5 := hZ0 hb5;clear hw5 hb5))
 have hk4 : Kept NoF w w4 := Kept.then (by (repeat' (first | (with_reducible first | exact kR0 | apply kP0 | apply kN0 | apply kD0 | apply kA0) | (with_reducible exact HK2.out) | (right;simp;done)))) HKK4.out
 have hle : w.heap.size <= w2.heap.size := HK2.out.size
 have hk5 : Kept NoF w w5 := behind hk4 HB5.out hle
 have hw5 := HW5.out
 simp only [List.nil_append] at hw5
 clear q4 c0 HW4 HW5 HB5 HKK4 hk4 HNEW HC
 have HW5 := hZ0 hw5;have HK5 := hZ0 hk5;have HLE := hZ0 hle;clear hw5 hk5 hle
 have hpl := putN_len (n := 7) (by omega)
 have hne : put 7 ≠ [] := by
  intro e
  have h1 := put_pos 7
  rw [e] at h1
  simp at h1
 have HH := hZ0 (And.intro hpl hne);clear hpl hne
 have u1 := HCn.out _ (HW5.out.has (List.mem_singleton.2 rfl))
 go_wp2_with fail
 refine (num_s HW5.out n (by have := HBn.out;omega) (by have := HH.out.1;omega)).mono ?_
 rintro e w6 ⟨rfl,hw6,hb6⟩
 have HWF := hZ0 hw6;have HKF := hZ0 (behind HK5.out hb6 HLE.out);clear hw6 hb6 u1 q5
 go_wp2_with fail
 refine (done_s HWF.out (by have := HH.out.2;simp;intro h;exact absurd h this)).mono ?_
 rintro e wf ⟨rfl,hbf⟩
 have HKD := hZ0 (behind HKF.out hbf HLE.out);clear hbf
 go_wp2
 go_ret2
 exact ⟨by simp only [List.append_assoc];rfl,HKD.out⟩
theorem nput_4 (h : NOk w x) (h0 : noteE x = 0) (hu : NU x) (hk : x.k = 4) : Calls Tryz.prog 88 #[nagg x] w fun e w' => e = .returned (.tuple #[.string (ofL (putN x)),.int .i64 0]) /\ Kept NoF w w' := by
 have hP : putN x = put 4 ++ (put x.at'.toNat ++ put x.n.toNat) := by unfold putN;rw [hk];rfl
 rw [hP]
 obtain ⟨W0,hW0⟩ : ∃ W0,w.alloc (.cells (ncell x).toArray 116) = W0 := ⟨_,rfl⟩
 have hk0 : Kept NoF w W0 := by rw [<- hW0];(repeat' (first | (with_reducible first | exact kR0 | apply kP0 | apply kN0 | apply kD0 | apply kA0) | (right;simp;done)))
 have hn0 : Has W0 w.heap.size 116 (ncell x).toArray := by rw [<- hW0];exact Has.new _ _ _
 have hchk := ncheck_any W0 x (h.kept hk0)
 rw [h0] at hchk
 have hq : ∀ W,Has W w.heap.size 116 (ncell x).toArray -> W.cell? ⟨w.heap.size,0,none⟩ = some (.int .i64 4) := fun W hW => by
  have h0 : W.cell? ⟨w.heap.size,0,none⟩ = some (.int .i64 x.k) := hW.cell 0
  rw [hk] at h0
  exact h0
 have hz : rngL [x.n] = 0 := by
  unfold noteE at h0
  rw [hk] at h0
  exact h0
 obtain ⟨n,hn⟩ : ∃ n : Nat,x.n = n := ⟨(x.n).toNat,by have := rng_in hz;omega⟩
 have hcn : ∀ W,Has W w.heap.size 116 (ncell x).toArray -> W.cell? ⟨w.heap.size,1,none⟩ = some (.int .i64 (n : Int)) := fun W hW => by
  have h0 : W.cell? ⟨w.heap.size,1,none⟩ = some (.int .i64 (x.n)) := hW.cell 1
  rw [hn] at h0
  exact h0
 have hbn := rng_in hz
 rw [hn] at hbn ⊢
 rw [Int.toNat_natCast]
 have HCn := hZ0 hcn;have HBn := hZ0 hbn
 clear hcn hbn hn
 have hat : 0 <= x.at' /\ x.at' <= 18446744073709551615 := hu.1
 obtain ⟨a,ha⟩ : ∃ n : Nat,x.at' = n := ⟨(x.at').toNat,by have := hat;omega⟩
 have hca : ∀ W,Has W w.heap.size 116 (ncell x).toArray -> W.cell? ⟨w.heap.size,2,none⟩ = some (.int .u64 (a : Int)) := fun W hW => by
  have h0 : W.cell? ⟨w.heap.size,2,none⟩ = some (.int .u64 (x.at')) := hW.cell 2
  rw [ha] at h0
  exact h0
 have hba := hat
 rw [ha] at hba ⊢
 rw [Int.toNat_natCast]
 have HCa := hZ0 hca;have HBa := hZ0 hba
 clear hca hba ha
 clear hz hat
 have HC := hZ0 hchk;have HQ := hZ0 hq;have HK0 := hZ0 hk0;have HN0 := hZ0 hn0;have HX := hZ0 h;have HU := hZ0 hu
 clear hchk hq hk0 hn0 h hu h0 hP hk
 go_enter Tryz.func88,Tryz.ntmps88
 go_wp2_with (refine wpList_load_row rfl 116 (.tmp 1) rfl w.heap.size rfl 116 _ (0,0) _ HN0.out Tryz.underlying116 rfl (by kernel_rfl) ?_)
 clear hW0
 refine HC.out.mono ?_
 rintro e w2 ⟨rfl,hk2⟩
 have HN2 := hZ0 (HN0.out.kept hk2 (fun z => z));have HK2 := hZ0 (HK0.out.then hk2);clear hk2
 have c0 := HQ.out _ HN2.out
 have hnew : ∀ W,Has W w.heap.size 116 (ncell x).toArray -> Calls Tryz.prog 151 #[] W fun e w' => ∃ g,e = .returned (.pointer (some ⟨g,0,none⟩)) /\ WS W.heap.size w' g [] [(w.heap.size,116,(ncell x).toArray)] /\ Kept NoF W w' :=
  fun W hW => new_s W _ (fun y hy => by simp at hy;subst hy;exact hW)
 have HNEW := hZ0 hnew;clear hnew
 go_wp2_with fail
 go_region_held3 (fun W => W.cell? ⟨w.heap.size,0,none⟩ = some (.int .i64 4)) (first | with_reducible exact q5 | with_reducible exact q4 | with_reducible exact c0 | (simp [go_sem,c0];done))
  (first
   | (go_at_call 151;refine (HNEW.out _ (by exact HN2.out)).mono ?_;rintro e w4 ⟨g,rfl,hw4,hkk4⟩;have q4 := HQ.out _ (hw4.has (List.mem_singleton.2 rfl));have HW4 := hZ0 hw4;have HKK4 := hZ0 hkk4;clear hw4 hkk4)
   | (go_at_call 152;refine (num_s (by exact HW4.out) 4 (by omega) (by simp)).mono ?_;rintro e w5 ⟨rfl,hw5,hb5⟩;have q5 := HQ.out _ (hw5.has (List.mem_singleton.2 rfl));have HW5 := hZ0 hw5;have HB5 := hZ0 hb5;clear hw5 hb5))
 have hk4 : Kept NoF w w4 := Kept.then (by (repeat' (first | (with_reducible first | exact kR0 | apply kP0 | apply kN0 | apply kD0 | apply kA0) | (with_reducible exact HK2.out) | (right;simp;done)))) HKK4.out
 have hle : w.heap.size <= w2.heap.size := HK2.out.size
 have hk5 : Kept NoF w w5 := behind hk4 HB5.out hle
 have hw5 := HW5.out
 simp only [List.nil_append] at hw5
 clear q4 c0 HW4 HW5 HB5 HKK4 hk4 HNEW HC
 have HW5 := hZ0 hw5;have HK5 := hZ0 hk5;have HLE := hZ0 hle;clear hw5 hk5 hle
 have hpl := putN_len (n := 4) (by omega)
 have hne : put 4 ≠ [] := by
  intro e
  have h1 := put_pos 4
  rw [e] at h1
  simp at h1
 have HH := hZ0 (And.intro hpl hne);clear hpl hne
 have u1 := HCa.out _ (HW5.out.has (List.mem_singleton.2 rfl))
 go_wp2_with fail
 refine (big_s HW5.out a (by have := HBa.out;omega) (by have := HH.out.1;omega)).mono ?_
 rintro e w6 ⟨rfl,hw6,hb6⟩
 have HW6 := hZ0 hw6;have HK6 := hZ0 (behind HK5.out hb6 HLE.out);clear hw6 hb6 u1 q5
 have u1 := HCn.out _ (HW6.out.has (List.mem_singleton.2 rfl))
 go_wp2_with fail
 refine (num_s HW6.out n (by have := HBn.out;omega) (by have := HH.out.1;have := putN_len (n := a) (by have := HBa.out;omega);simp;omega)).mono ?_
 rintro e w7 ⟨rfl,hw7,hb7⟩
 have HWF := hZ0 hw7;have HKF := hZ0 (behind HK6.out hb7 HLE.out);clear hw7 hb7 u1
 go_wp2_with fail
 refine (done_s HWF.out (by have := HH.out.2;simp;intro h;exact absurd h this)).mono ?_
 rintro e wf ⟨rfl,hbf⟩
 have HKD := hZ0 (behind HKF.out hbf HLE.out);clear hbf
 go_wp2
 go_ret2
 exact ⟨by simp only [List.append_assoc];rfl,HKD.out⟩
theorem nput_3 (h : NOk w x) (h0 : noteE x = 0) (hu : NU x) (hk : x.k = 3) : Calls Tryz.prog 88 #[nagg x] w fun e w' => e = .returned (.tuple #[.string (ofL (putN x)),.int .i64 0]) /\ Kept NoF w w' := by
 have hP : putN x = put 3 ++ (put x.n.toNat ++ put x.at'.toNat) := by unfold putN;rw [hk];rfl
 rw [hP]
 obtain ⟨W0,hW0⟩ : ∃ W0,w.alloc (.cells (ncell x).toArray 116) = W0 := ⟨_,rfl⟩
 have hk0 : Kept NoF w W0 := by rw [<- hW0];(repeat' (first | (with_reducible first | exact kR0 | apply kP0 | apply kN0 | apply kD0 | apply kA0) | (right;simp;done)))
 have hn0 : Has W0 w.heap.size 116 (ncell x).toArray := by rw [<- hW0];exact Has.new _ _ _
 have hchk := ncheck_any W0 x (h.kept hk0)
 rw [h0] at hchk
 have hq : ∀ W,Has W w.heap.size 116 (ncell x).toArray -> W.cell? ⟨w.heap.size,0,none⟩ = some (.int .i64 3) := fun W hW => by
  have h0 : W.cell? ⟨w.heap.size,0,none⟩ = some (.int .i64 x.k) := hW.cell 0
  rw [hk] at h0
  exact h0
 have hz : rngL [x.n] = 0 := by
  unfold noteE at h0
  rw [hk] at h0
  exact h0
 obtain ⟨n,hn⟩ : ∃ n : Nat,x.n = n := ⟨(x.n).toNat,by have := rng_in hz;omega⟩
 have hcn : ∀ W,Has W w.heap.size 116 (ncell x).toArray -> W.cell? ⟨w.heap.size,1,none⟩ = some (.int .i64 (n : Int)) := fun W hW => by
  have h0 : W.cell? ⟨w.heap.size,1,none⟩ = some (.int .i64 (x.n)) := hW.cell 1
  rw [hn] at h0
  exact h0
 have hbn := rng_in hz
 rw [hn] at hbn ⊢
 rw [Int.toNat_natCast]
 have HCn := hZ0 hcn;have HBn := hZ0 hbn
 clear hcn hbn hn
 have hat : 0 <= x.at' /\ x.at' <= 18446744073709551615 := hu.1
 obtain ⟨a,ha⟩ : ∃ n : Nat,x.at' = n := ⟨(x.at').toNat,by have := hat;omega⟩
 have hca : ∀ W,Has W w.heap.size 116 (ncell x).toArray -> W.cell? ⟨w.heap.size,2,none⟩ = some (.int .u64 (a : Int)) := fun W hW => by
  have h0 : W.cell? ⟨w.heap.size,2,none⟩ = some (.int .u64 (x.at')) := hW.cell 2
  rw [ha] at h0
  exact h0
 have hba := hat
 rw [ha] at hba ⊢
 rw [Int.toNat_natCast]
 have HCa := hZ0 hca;have HBa := hZ0 hba
 clear hca hba ha
 clear hz hat
 have HC := hZ0 hchk;have HQ := hZ0 hq;have HK0 := hZ0 hk0;have HN0 := hZ0 hn0;have HX := hZ0 h;have HU := hZ0 hu
 clear hchk hq hk0 hn0 h hu h0 hP hk
 go_enter Tryz.func88,Tryz.ntmps88
 go_wp2_with (refine wpList_load_row rfl 116 (.tmp 1) rfl w.heap.size rfl 116 _ (0,0) _ HN0.out Tryz.underlying116 rfl (by kernel_rfl) ?_)
 clear hW0
 refine HC.out.mono ?_
 rintro e w2 ⟨rfl,hk2⟩
 have HN2 := hZ0 (HN0.out.kept hk2 (fun z => z));have HK2 := hZ0 (HK0.out.then hk2);clear hk2
 have c0 := HQ.out _ HN2.out
 have hnew : ∀ W,Has W w.heap.size 116 (ncell x).toArray -> Calls Tryz.prog 151 #[] W fun e w' => ∃ g,e = .returned (.pointer (some ⟨g,0,none⟩)) /\ WS W.heap.size w' g [] [(w.heap.size,116,(ncell x).toArray)] /\ Kept NoF W w' :=
  fun W hW => new_s W _ (fun y hy => by simp at hy;subst hy;exact hW)
 have HNEW := hZ0 hnew;clear hnew
 go_wp2_with fail
 go_region_held3 (fun W => W.cell? ⟨w.heap.size,0,none⟩ = some (.int .i64 3)) (first | with_reducible exact q5 | with_reducible exact q4 | with_reducible exact c0 | (simp [go_sem,c0];done))
  (first
   | (go_at_call 151;refine (HNEW.out _ (by exact HN2.out)).mono ?_;rintro e w4 ⟨g,rfl,hw4,hkk4⟩;have q4 := HQ.out _ (hw4.has (List.mem_singleton.2 rfl));have HW4 := hZ0 hw4;have HKK4 := hZ0 hkk4;clear hw4 hkk4)
   | (go_at_call 152;refine (num_s (by exact HW4.out) 3 (by omega) (by simp)).mono ?_;rintro e w5 ⟨rfl,hw5,hb5⟩;have q5 := HQ.out _ (hw5.has (List.mem_singleton.2 rfl));have HW5 := hZ0 hw5;have HB5 := hZ0 hb5;clear hw5 hb5))
 have hk4 : Kept NoF w w4 := Kept.then (by (repeat' (first | (with_reducible first | exact kR0 | apply kP0 | apply kN0 | apply kD0 | apply kA0) | (with_reducible exact HK2.out) | (right;simp;done)))) HKK4.out
 have hle : w.heap.size <= w2.heap.size := HK2.out.size
 have hk5 : Kept NoF w w5 := behind hk4 HB5.out hle
 have hw5 := HW5.out
 simp only [List.nil_append] at hw5
 clear q4 c0 HW4 HW5 HB5 HKK4 hk4 HNEW HC
 have HW5 := hZ0 hw5;have HK5 := hZ0 hk5;have HLE := hZ0 hle;clear hw5 hk5 hle
 have hpl := putN_len (n := 3) (by omega)
 have hne : put 3 ≠ [] := by
  intro e
  have h1 := put_pos 3
  rw [e] at h1
  simp at h1
 have HH := hZ0 (And.intro hpl hne);clear hpl hne
 have ln := putN_len (n := n) (by have := HBn.out;omega)
 have la := putN_len (n := a) (by have := HBa.out;omega)
 have HLL := hZ0 (And.intro ln (la))
 clear ln la
 have r0 : w5.cell? ⟨w.heap.size,1,none⟩ = some (.int .i64 (n : Int)) /\ w5.cell? ⟨w.heap.size,2,none⟩ = some (.int .u64 (a : Int)) := ⟨HCn.out _ (HW5.out.has (List.mem_singleton.2 rfl)),HCa.out _ (HW5.out.has (List.mem_singleton.2 rfl))⟩
 clear q5
 go_wp2_with fail
 go_region_held3 (fun W => W.cell? ⟨w.heap.size,1,none⟩ = some (.int .i64 (n : Int)) /\ W.cell? ⟨w.heap.size,2,none⟩ = some (.int .u64 (a : Int))) (first | with_reducible exact r2 | with_reducible exact r1 | with_reducible exact r0 | (simp [go_sem,r0];done))
  (first
   | (have hx := HV1;clear hx;go_at_call 156;refine (big_s (by exact HV1.out) a (by have := HBa.out;omega) (by have := HH.out.1;have := HLL.out;simp;omega)).mono ?_;rintro e v2 ⟨rfl,hv,hd⟩;have r2 : v2.cell? ⟨w.heap.size,1,none⟩ = some (.int .i64 (n : Int)) /\ v2.cell? ⟨w.heap.size,2,none⟩ = some (.int .u64 (a : Int)) := ⟨HCn.out _ (hv.has (List.mem_singleton.2 rfl)),HCa.out _ (hv.has (List.mem_singleton.2 rfl))⟩;have HV2 := hZ0 hv;have HD2 := hZ0 hd;clear hv hd)
   | (have hx := HW5;clear hx;go_at_call 152;refine (num_s (by exact HW5.out) n (by have := HBn.out;omega) (by have := HH.out.1;have := HLL.out;simp;omega)).mono ?_;rintro e v1 ⟨rfl,hv,hd⟩;have r1 : v1.cell? ⟨w.heap.size,1,none⟩ = some (.int .i64 (n : Int)) /\ v1.cell? ⟨w.heap.size,2,none⟩ = some (.int .u64 (a : Int)) := ⟨HCn.out _ (hv.has (List.mem_singleton.2 rfl)),HCa.out _ (hv.has (List.mem_singleton.2 rfl))⟩;have HV1 := hZ0 hv;have HD1 := hZ0 hd;clear hv hd))
 have hkf : Kept NoF w v2 := behind (behind (by (repeat' (first | (with_reducible first | exact kR0 | apply kP0 | apply kN0 | apply kD0 | apply kA0) | (with_reducible exact HK5.out) | (right;simp;done)))) HD1.out HLE.out) HD2.out HLE.out
 have HWF := hZ0 HV2.out;have HKF := hZ0 hkf
 clear hkf r0 r1 r2 HV1 HV2 HD1 HD2
 go_wp2_with fail
 refine (done_s HWF.out (by have := HH.out.2;simp;intro h;exact absurd h this)).mono ?_
 rintro e wf ⟨rfl,hbf⟩
 have HKD := hZ0 (behind HKF.out hbf HLE.out);clear hbf
 go_wp2
 go_ret2
 exact ⟨by simp only [List.append_assoc];rfl,HKD.out⟩
theorem nput_6 (h : NOk w x) (h0 : noteE x = 0) (hu : NU x) (hk : x.k = 6) : Calls Tryz.prog 88 #[nagg x] w fun e w' => e = .returned (.tuple #[.string (ofL (putN x)),.int .i64 0]) /\ Kept NoF w w' := by
 have hP : putN x = put 6 ++ (put x.pin.id.toNat ++ put x.pin.at'.toNat ++ put x.pin.left.toNat) := by unfold putN;rw [hk];rfl
 rw [hP]
 obtain ⟨W0,hW0⟩ : ∃ W0,w.alloc (.cells (ncell x).toArray 116) = W0 := ⟨_,rfl⟩
 have hk0 : Kept NoF w W0 := by rw [<- hW0];(repeat' (first | (with_reducible first | exact kR0 | apply kP0 | apply kN0 | apply kD0 | apply kA0) | (right;simp;done)))
 have hn0 : Has W0 w.heap.size 116 (ncell x).toArray := by rw [<- hW0];exact Has.new _ _ _
 have hchk := ncheck_any W0 x (h.kept hk0)
 rw [h0] at hchk
 have hq : ∀ W,Has W w.heap.size 116 (ncell x).toArray -> W.cell? ⟨w.heap.size,0,none⟩ = some (.int .i64 6) := fun W hW => by
  have h0 : W.cell? ⟨w.heap.size,0,none⟩ = some (.int .i64 x.k) := hW.cell 0
  rw [hk] at h0
  exact h0
 have hz : rngL [x.pin.id,x.pin.left] = 0 := by
  unfold noteE at h0
  rw [hk] at h0
  exact h0
 obtain ⟨n,hn⟩ : ∃ n : Nat,x.pin.id = n := ⟨(x.pin.id).toNat,by have := (rng_in2 hz).1;omega⟩
 have hcn : ∀ W,Has W w.heap.size 116 (ncell x).toArray -> W.cell? ⟨w.heap.size,11,none⟩ = some (.int .i64 (n : Int)) := fun W hW => by
  have h0 : W.cell? ⟨w.heap.size,11,none⟩ = some (.int .i64 (x.pin.id)) := hW.cell 11
  rw [hn] at h0
  exact h0
 have hbn := (rng_in2 hz).1
 rw [hn] at hbn ⊢
 rw [Int.toNat_natCast]
 have HCn := hZ0 hcn;have HBn := hZ0 hbn
 clear hcn hbn hn
 have hat : 0 <= x.pin.at' /\ x.pin.at' <= 18446744073709551615 := hu.2.1
 obtain ⟨a,ha⟩ : ∃ n : Nat,x.pin.at' = n := ⟨(x.pin.at').toNat,by have := hat;omega⟩
 have hca : ∀ W,Has W w.heap.size 116 (ncell x).toArray -> W.cell? ⟨w.heap.size,12,none⟩ = some (.int .u64 (a : Int)) := fun W hW => by
  have h0 : W.cell? ⟨w.heap.size,12,none⟩ = some (.int .u64 (x.pin.at')) := hW.cell 12
  rw [ha] at h0
  exact h0
 have hba := hat
 rw [ha] at hba ⊢
 rw [Int.toNat_natCast]
 have HCa := hZ0 hca;have HBa := hZ0 hba
 clear hca hba ha
 obtain ⟨m,hm⟩ : ∃ n : Nat,x.pin.left = n := ⟨(x.pin.left).toNat,by have := (rng_in2 hz).2;omega⟩
 have hcm : ∀ W,Has W w.heap.size 116 (ncell x).toArray -> W.cell? ⟨w.heap.size,13,none⟩ = some (.int .i64 (m : Int)) := fun W hW => by
  have h0 : W.cell? ⟨w.heap.size,13,none⟩ = some (.int .i64 (x.pin.left)) := hW.cell 13
  rw [hm] at h0
  exact h0
 have hbm := (rng_in2 hz).2
 rw [hm] at hbm ⊢
 rw [Int.toNat_natCast]
 have HCm := hZ0 hcm;have HBm := hZ0 hbm
 clear hcm hbm hm
 clear hz hat
 have HC := hZ0 hchk;have HQ := hZ0 hq;have HK0 := hZ0 hk0;have HN0 := hZ0 hn0;have HX := hZ0 h;have HU := hZ0 hu
 clear hchk hq hk0 hn0 h hu h0 hP hk
 go_enter Tryz.func88,Tryz.ntmps88
 go_wp2_with (refine wpList_load_row rfl 116 (.tmp 1) rfl w.heap.size rfl 116 _ (0,0) _ HN0.out Tryz.underlying116 rfl (by kernel_rfl) ?_)
 clear hW0
 refine HC.out.mono ?_
 rintro e w2 ⟨rfl,hk2⟩
 have HN2 := hZ0 (HN0.out.kept hk2 (fun z => z));have HK2 := hZ0 (HK0.out.then hk2);clear hk2
 have c0 := HQ.out _ HN2.out
 have hnew : ∀ W,Has W w.heap.size 116 (ncell x).toArray -> Calls Tryz.prog 151 #[] W fun e w' => ∃ g,e = .returned (.pointer (some ⟨g,0,none⟩)) /\ WS W.heap.size w' g [] [(w.heap.size,116,(ncell x).toArray)] /\ Kept NoF W w' :=
  fun W hW => new_s W _ (fun y hy => by simp at hy;subst hy;exact hW)
 have HNEW := hZ0 hnew;clear hnew
 go_wp2_with fail
 go_region_held3 (fun W => W.cell? ⟨w.heap.size,0,none⟩ = some (.int .i64 6)) (first | with_reducible exact q5 | with_reducible exact q4 | with_reducible exact c0 | (simp [go_sem,c0];done))
  (first
   | (go_at_call 151;refine (HNEW.out _ (by exact HN2.out)).mono ?_;rintro e w4 ⟨g,rfl,hw4,hkk4⟩;have q4 := HQ.out _ (hw4.has (List.mem_singleton.2 rfl));have HW4 := hZ0 hw4;have HKK4 := hZ0 hkk4;clear hw4 hkk4)
   | (go_at_call 152;refine (num_s (by exact HW4.out) 6 (by omega) (by simp)).mono ?_;rintro e w5 ⟨rfl,hw5,hb5⟩;have q5 := HQ.out _ (hw5.has (List.mem_singleton.2 rfl));have HW5 := hZ0 hw5;have HB5 := hZ0 hb5;clear hw5 hb5))
 have hk4 : Kept NoF w w4 := Kept.then (by (repeat' (first | (with_reducible first | exact kR0 | apply kP0 | apply kN0 | apply kD0 | apply kA0) | (with_reducible exact HK2.out) | (right;simp;done)))) HKK4.out
 have hle : w.heap.size <= w2.heap.size := HK2.out.size
 have hk5 : Kept NoF w w5 := behind hk4 HB5.out hle
 have hw5 := HW5.out
 simp only [List.nil_append] at hw5
 clear q4 c0 HW4 HW5 HB5 HKK4 hk4 HNEW HC
 have HW5 := hZ0 hw5;have HK5 := hZ0 hk5;have HLE := hZ0 hle;clear hw5 hk5 hle
 have hpl := putN_len (n := 6) (by omega)
 have hne : put 6 ≠ [] := by
  intro e
  have h1 := put_pos 6
  rw [e] at h1
  simp at h1
 have HH := hZ0 (And.intro hpl hne);clear hpl hne
 have ln := putN_len (n := n) (by have := HBn.out;omega)
 have la := putN_len (n := a) (by have := HBa.out;omega)
 have lm := putN_len (n := m) (by have := HBm.out;omega)
 have HLL := hZ0 (And.intro ln ( And.intro la (lm)))
 clear ln la lm
 have r0 : w5.cell? ⟨w.heap.size,11,none⟩ = some (.int .i64 (n : Int)) /\ w5.cell? ⟨w.heap.size,12,none⟩ = some (.int .u64 (a : Int)) /\ w5.cell? ⟨w.heap.size,13,none⟩ = some (.int .i64 (m : Int)) := ⟨HCn.out _ (HW5.out.has (List.mem_singleton.2 rfl)),HCa.out _ (HW5.out.has (List.mem_singleton.2 rfl)),HCm.out _ (HW5.out.has (List.mem_singleton.2 rfl))⟩
 clear q5
 go_wp2_with fail
 go_region_held3 (fun W => W.cell? ⟨w.heap.size,11,none⟩ = some (.int .i64 (n : Int)) /\ W.cell? ⟨w.heap.size,12,none⟩ = some (.int .u64 (a : Int)) /\ W.cell? ⟨w.heap.size,13,none⟩ = some (.int .i64 (m : Int))) (first | with_reducible exact r3 | with_reducible exact r2 | with_reducible exact r1 | with_reducible exact r0 | (simp [go_sem,r0];done))
  (first
   | (have hx := HV2;clear hx;go_at_call 152;refine (num_s (by exact HV2.out) m (by have := HBm.out;omega) (by have := HH.out.1;have := HLL.out;simp;omega)).mono ?_;rintro e v3 ⟨rfl,hv,hd⟩;have r3 : v3.cell? ⟨w.heap.size,11,none⟩ = some (.int .i64 (n : Int)) /\ v3.cell? ⟨w.heap.size,12,none⟩ = some (.int .u64 (a : Int)) /\ v3.cell? ⟨w.heap.size,13,none⟩ = some (.int .i64 (m : Int)) := ⟨HCn.out _ (hv.has (List.mem_singleton.2 rfl)),HCa.out _ (hv.has (List.mem_singleton.2 rfl)),HCm.out _ (hv.has (List.mem_singleton.2 rfl))⟩;have HV3 := hZ0 hv;have HD3 := hZ0 hd;clear hv hd)
   | (have hx := HV1;clear hx;go_at_call 156;refine (big_s (by exact HV1.out) a (by have := HBa.out;omega) (by have := HH.out.1;have := HLL.out;simp;omega)).mono ?_;rintro e v2 ⟨rfl,hv,hd⟩;have r2 : v2.cell? ⟨w.heap.size,11,none⟩ = some (.int .i64 (n : Int)) /\ v2.cell? ⟨w.heap.size,12,none⟩ = some (.int .u64 (a : Int)) /\ v2.cell? ⟨w.heap.size,13,none⟩ = some (.int .i64 (m : Int)) := ⟨HCn.out _ (hv.has (List.mem_singleton.2 rfl)),HCa.out _ (hv.has (List.mem_singleton.2 rfl)),HCm.out _ (hv.has (List.mem_singleton.2 rfl))⟩;have HV2 := hZ0 hv;have HD2 := hZ0 hd;clear hv hd)
   | (have hx := HW5;clear hx;go_at_call 152;refine (num_s (by exact HW5.out) n (by have := HBn.out;omega) (by have := HH.out.1;have := HLL.out;simp;omega)).mono ?_;rintro e v1 ⟨rfl,hv,hd⟩;have r1 : v1.cell? ⟨w.heap.size,11,none⟩ = some (.int .i64 (n : Int)) /\ v1.cell? ⟨w.heap.size,12,none⟩ = some (.int .u64 (a : Int)) /\ v1.cell? ⟨w.heap.size,13,none⟩ = some (.int .i64 (m : Int)) := ⟨HCn.out _ (hv.has (List.mem_singleton.2 rfl)),HCa.out _ (hv.has (List.mem_singleton.2 rfl)),HCm.out _ (hv.has (List.mem_singleton.2 rfl))⟩;have HV1 := hZ0 hv;have HD1 := hZ0 hd;clear hv hd))
 have hkf : Kept NoF w v3 := behind (behind (behind (by (repeat' (first | (with_reducible first | exact kR0 | apply kP0 | apply kN0 | apply kD0 | apply kA0) | (with_reducible exact HK5.out) | (right;simp;done)))) HD1.out HLE.out) HD2.out HLE.out) HD3.out HLE.out
 have HWF := hZ0 HV3.out;have HKF := hZ0 hkf
 clear hkf r0 r1 r2 r3 HV1 HV2 HV3 HD1 HD2 HD3
 go_wp2_with fail
 refine (done_s HWF.out (by have := HH.out.2;simp;intro h;exact absurd h this)).mono ?_
 rintro e wf ⟨rfl,hbf⟩
 have HKD := hZ0 (behind HKF.out hbf HLE.out);clear hbf
 go_wp2
 go_ret2
 exact ⟨by simp only [List.append_assoc];rfl,HKD.out⟩
theorem nput_8 (h : NOk w x) (h0 : noteE x = 0) (hu : NU x) (hk : x.k = 8) : Calls Tryz.prog 88 #[nagg x] w fun e w' => e = .returned (.tuple #[.string (ofL (putN x)),.int .i64 0]) /\ Kept NoF w w' := by
 have hP : putN x = put 8 ++ (put x.said.cl.toNat ++ put x.said.req.toNat ++ put x.said.e.toNat ++ put x.said.pin.toNat) := by unfold putN;rw [hk];rfl
 rw [hP]
 obtain ⟨W0,hW0⟩ : ∃ W0,w.alloc (.cells (ncell x).toArray 116) = W0 := ⟨_,rfl⟩
 have hk0 : Kept NoF w W0 := by rw [<- hW0];(repeat' (first | (with_reducible first | exact kR0 | apply kP0 | apply kN0 | apply kD0 | apply kA0) | (right;simp;done)))
 have hn0 : Has W0 w.heap.size 116 (ncell x).toArray := by rw [<- hW0];exact Has.new _ _ _
 have hchk := ncheck_any W0 x (h.kept hk0)
 rw [h0] at hchk
 have hq : ∀ W,Has W w.heap.size 116 (ncell x).toArray -> W.cell? ⟨w.heap.size,0,none⟩ = some (.int .i64 8) := fun W hW => by
  have h0 : W.cell? ⟨w.heap.size,0,none⟩ = some (.int .i64 x.k) := hW.cell 0
  rw [hk] at h0
  exact h0
 have hz : saidE x.said = 0 := by
  unfold noteE at h0
  rw [hk] at h0
  exact h0
 have hsd := said_in hz
 obtain ⟨a,ha⟩ : ∃ n : Nat,x.said.cl = n := ⟨(x.said.cl).toNat,by have := hsd.1;omega⟩
 have hca : ∀ W,Has W w.heap.size 116 (ncell x).toArray -> W.cell? ⟨w.heap.size,14,none⟩ = some (.int .i64 (a : Int)) := fun W hW => by
  have h0 : W.cell? ⟨w.heap.size,14,none⟩ = some (.int .i64 (x.said.cl)) := hW.cell 14
  rw [ha] at h0
  exact h0
 have hba := hsd.1
 rw [ha] at hba ⊢
 rw [Int.toNat_natCast]
 have HCa := hZ0 hca;have HBa := hZ0 hba
 clear hca hba ha
 obtain ⟨b,hb⟩ : ∃ n : Nat,x.said.req = n := ⟨(x.said.req).toNat,by have := hsd.2.1;omega⟩
 have hcb : ∀ W,Has W w.heap.size 116 (ncell x).toArray -> W.cell? ⟨w.heap.size,15,none⟩ = some (.int .i64 (b : Int)) := fun W hW => by
  have h0 : W.cell? ⟨w.heap.size,15,none⟩ = some (.int .i64 (x.said.req)) := hW.cell 15
  rw [hb] at h0
  exact h0
 have hbb := hsd.2.1
 rw [hb] at hbb ⊢
 rw [Int.toNat_natCast]
 have HCb := hZ0 hcb;have HBb := hZ0 hbb
 clear hcb hbb hb
 obtain ⟨c,hc⟩ : ∃ n : Nat,x.said.e = n := ⟨(x.said.e).toNat,by have := hsd.2.2.1;omega⟩
 have hcc : ∀ W,Has W w.heap.size 116 (ncell x).toArray -> W.cell? ⟨w.heap.size,16,none⟩ = some (.int .i64 (c : Int)) := fun W hW => by
  have h0 : W.cell? ⟨w.heap.size,16,none⟩ = some (.int .i64 (x.said.e)) := hW.cell 16
  rw [hc] at h0
  exact h0
 have hbc := hsd.2.2.1
 rw [hc] at hbc ⊢
 rw [Int.toNat_natCast]
 have HCc := hZ0 hcc;have HBc := hZ0 hbc
 clear hcc hbc hc
 obtain ⟨d,hd⟩ : ∃ n : Nat,x.said.pin = n := ⟨(x.said.pin).toNat,by have := hsd.2.2.2;omega⟩
 have hcd : ∀ W,Has W w.heap.size 116 (ncell x).toArray -> W.cell? ⟨w.heap.size,17,none⟩ = some (.int .i64 (d : Int)) := fun W hW => by
  have h0 : W.cell? ⟨w.heap.size,17,none⟩ = some (.int .i64 (x.said.pin)) := hW.cell 17
  rw [hd] at h0
  exact h0
 have hbd := hsd.2.2.2
 rw [hd] at hbd ⊢
 rw [Int.toNat_natCast]
 have HCd := hZ0 hcd;have HBd := hZ0 hbd
 clear hcd hbd hd
 clear hz hsd
 have HC := hZ0 hchk;have HQ := hZ0 hq;have HK0 := hZ0 hk0;have HN0 := hZ0 hn0;have HX := hZ0 h;have HU := hZ0 hu
 clear hchk hq hk0 hn0 h hu h0 hP hk
 go_enter Tryz.func88,Tryz.ntmps88
 go_wp2_with (refine wpList_load_row rfl 116 (.tmp 1) rfl w.heap.size rfl 116 _ (0,0) _ HN0.out Tryz.underlying116 rfl (by kernel_rfl) ?_)
 clear hW0
 refine HC.out.mono ?_
 rintro e w2 ⟨rfl,hk2⟩
 have HN2 := hZ0 (HN0.out.kept hk2 (fun z => z));have HK2 := hZ0 (HK0.out.then hk2);clear hk2
 have c0 := HQ.out _ HN2.out
 have hnew : ∀ W,Has W w.heap.size 116 (ncell x).toArray -> Calls Tryz.prog 151 #[] W fun e w' => ∃ g,e = .returned (.pointer (some ⟨g,0,none⟩)) /\ WS W.heap.size w' g [] [(w.heap.size,116,(ncell x).toArray)] /\ Kept NoF W w' :=
  fun W hW => new_s W _ (fun y hy => by simp at hy;subst hy;exact hW)
 have HNEW := hZ0 hnew;clear hnew
 go_wp2_with fail
 go_region_held3 (fun W => W.cell? ⟨w.heap.size,0,none⟩ = some (.int .i64 8)) (first | with_reducible exact q5 | with_reducible exact q4 | with_reducible exact c0 | (simp [go_sem,c0];done))
  (first
   | (go_at_call 151;refine (HNEW.out _ (by exact HN2.out)).mono ?_;rintro e w4 ⟨g,rfl,hw4,hkk4⟩;have q4 := HQ.out _ (hw4.has (List.mem_singleton.2 rfl));have HW4 := hZ0 hw4;have HKK4 := hZ0 hkk4;clear hw4 hkk4)
   | (go_at_call 152;refine (num_s (by exact HW4.out) 8 (by omega) (by simp)).mono ?_;rintro e w5 ⟨rfl,hw5,hb5⟩;have q5 := HQ.out _ (hw5.has (List.mem_singleton.2 rfl));have HW5 := hZ0 hw5;have HB5 := hZ0 hb5;clear hw5 hb5))
 have hk4 : Kept NoF w w4 := Kept.then (by (repeat' (first | (with_reducible first | exact kR0 | apply kP0 | apply kN0 | apply kD0 | apply kA0) | (with_reducible exact HK2.out) | (right;simp;done)))) HKK4.out
 have hle : w.heap.size <= w2.heap.size := HK2.out.size
 have hk5 : Kept NoF w w5 := behind hk4 HB5.out hle
 have hw5 := HW5.out
 simp only [List.nil_append] at hw5
 clear q4 c0 HW4 HW5 HB5 HKK4 hk4 HNEW HC
 have HW5 := hZ0 hw5;have HK5 := hZ0 hk5;have HLE := hZ0 hle;clear hw5 hk5 hle
 have hpl := putN_len (n := 8) (by omega)
 have hne : put 8 ≠ [] := by
  intro e
  have h1 := put_pos 8
  rw [e] at h1
  simp at h1
 have HH := hZ0 (And.intro hpl hne);clear hpl hne
 have la := putN_len (n := a) (by have := HBa.out;omega)
 have lb := putN_len (n := b) (by have := HBb.out;omega)
 have lc := putN_len (n := c) (by have := HBc.out;omega)
 have ld := putN_len (n := d) (by have := HBd.out;omega)
 have HLL := hZ0 (And.intro la ( And.intro lb ( And.intro lc (ld))))
 clear la lb lc ld
 have r0 : w5.cell? ⟨w.heap.size,14,none⟩ = some (.int .i64 (a : Int)) /\ w5.cell? ⟨w.heap.size,15,none⟩ = some (.int .i64 (b : Int)) /\ w5.cell? ⟨w.heap.size,16,none⟩ = some (.int .i64 (c : Int)) /\ w5.cell? ⟨w.heap.size,17,none⟩ = some (.int .i64 (d : Int)) := ⟨HCa.out _ (HW5.out.has (List.mem_singleton.2 rfl)),HCb.out _ (HW5.out.has (List.mem_singleton.2 rfl)),HCc.out _ (HW5.out.has (List.mem_singleton.2 rfl)),HCd.out _ (HW5.out.has (List.mem_singleton.2 rfl))⟩
 clear q5
 go_wp2_with fail
 go_region_held3 (fun W => W.cell? ⟨w.heap.size,14,none⟩ = some (.int .i64 (a : Int)) /\ W.cell? ⟨w.heap.size,15,none⟩ = some (.int .i64 (b : Int)) /\ W.cell? ⟨w.heap.size,16,none⟩ = some (.int .i64 (c : Int)) /\ W.cell? ⟨w.heap.size,17,none⟩ = some (.int .i64 (d : Int))) (first | with_reducible exact r4 | with_reducible exact r3 | with_reducible exact r2 | with_reducible exact r1 | with_reducible exact r0 | (simp [go_sem,r0];done))
  (first
   | (have hx := HV3;clear hx;go_at_call 152;refine (num_s (by exact HV3.out) d (by have := HBd.out;omega) (by have := HH.out.1;have := HLL.out;simp;omega)).mono ?_;rintro e v4 ⟨rfl,hv,hd⟩;have r4 : v4.cell? ⟨w.heap.size,14,none⟩ = some (.int .i64 (a : Int)) /\ v4.cell? ⟨w.heap.size,15,none⟩ = some (.int .i64 (b : Int)) /\ v4.cell? ⟨w.heap.size,16,none⟩ = some (.int .i64 (c : Int)) /\ v4.cell? ⟨w.heap.size,17,none⟩ = some (.int .i64 (d : Int)) := ⟨HCa.out _ (hv.has (List.mem_singleton.2 rfl)),HCb.out _ (hv.has (List.mem_singleton.2 rfl)),HCc.out _ (hv.has (List.mem_singleton.2 rfl)),HCd.out _ (hv.has (List.mem_singleton.2 rfl))⟩;have HV4 := hZ0 hv;have HD4 := hZ0 hd;clear hv hd)
   | (have hx := HV2;clear hx;go_at_call 152;refine (num_s (by exact HV2.out) c (by have := HBc.out;omega) (by have := HH.out.1;have := HLL.out;simp;omega)).mono ?_;rintro e v3 ⟨rfl,hv,hd⟩;have r3 : v3.cell? ⟨w.heap.size,14,none⟩ = some (.int .i64 (a : Int)) /\ v3.cell? ⟨w.heap.size,15,none⟩ = some (.int .i64 (b : Int)) /\ v3.cell? ⟨w.heap.size,16,none⟩ = some (.int .i64 (c : Int)) /\ v3.cell? ⟨w.heap.size,17,none⟩ = some (.int .i64 (d : Int)) := ⟨HCa.out _ (hv.has (List.mem_singleton.2 rfl)),HCb.out _ (hv.has (List.mem_singleton.2 rfl)),HCc.out _ (hv.has (List.mem_singleton.2 rfl)),HCd.out _ (hv.has (List.mem_singleton.2 rfl))⟩;have HV3 := hZ0 hv;have HD3 := hZ0 hd;clear hv hd)
   | (have hx := HV1;clear hx;go_at_call 152;refine (num_s (by exact HV1.out) b (by have := HBb.out;omega) (by have := HH.out.1;have := HLL.out;simp;omega)).mono ?_;rintro e v2 ⟨rfl,hv,hd⟩;have r2 : v2.cell? ⟨w.heap.size,14,none⟩ = some (.int .i64 (a : Int)) /\ v2.cell? ⟨w.heap.size,15,none⟩ = some (.int .i64 (b : Int)) /\ v2.cell? ⟨w.heap.size,16,none⟩ = some (.int .i64 (c : Int)) /\ v2.cell? ⟨w.heap.size,17,none⟩ = some (.int .i64 (d : Int)) := ⟨HCa.out _ (hv.has (List.mem_singleton.2 rfl)),HCb.out _ (hv.has (List.mem_singleton.2 rfl)),HCc.out _ (hv.has (List.mem_singleton.2 rfl)),HCd.out _ (hv.has (List.mem_singleton.2 rfl))⟩;have HV2 := hZ0 hv;have HD2 := hZ0 hd;clear hv hd)
   | (have hx := HW5;clear hx;go_at_call 152;refine (num_s (by exact HW5.out) a (by have := HBa.out;omega) (by have := HH.out.1;have := HLL.out;simp;omega)).mono ?_;rintro e v1 ⟨rfl,hv,hd⟩;have r1 : v1.cell? ⟨w.heap.size,14,none⟩ = some (.int .i64 (a : Int)) /\ v1.cell? ⟨w.heap.size,15,none⟩ = some (.int .i64 (b : Int)) /\ v1.cell? ⟨w.heap.size,16,none⟩ = some (.int .i64 (c : Int)) /\ v1.cell? ⟨w.heap.size,17,none⟩ = some (.int .i64 (d : Int)) := ⟨HCa.out _ (hv.has (List.mem_singleton.2 rfl)),HCb.out _ (hv.has (List.mem_singleton.2 rfl)),HCc.out _ (hv.has (List.mem_singleton.2 rfl)),HCd.out _ (hv.has (List.mem_singleton.2 rfl))⟩;have HV1 := hZ0 hv;have HD1 := hZ0 hd;clear hv hd))
 have hkf : Kept NoF w v4 := behind (behind (behind (behind (by (repeat' (first | (with_reducible first | exact kR0 | apply kP0 | apply kN0 | apply kD0 | apply kA0) | (with_reducible exact HK5.out) | (right;simp;done)))) HD1.out HLE.out) HD2.out HLE.out) HD3.out HLE.out) HD4.out HLE.out
 have HWF := hZ0 HV4.out;have HKF := hZ0 hkf
 clear hkf r0 r1 r2 r3 r4 HV1 HV2 HV3 HV4 HD1 HD2 HD3 HD4
 go_wp2_with fail
 refine (done_s HWF.out (by have := HH.out.2;simp;intro h;exact absurd h this)).mono ?_
 rintro e wf ⟨rfl,hbf⟩
 have HKD := hZ0 (behind HKF.out hbf HLE.out);clear hbf
 go_wp2
 go_ret2
 exact ⟨by simp only [List.append_assoc];rfl,HKD.out⟩
theorem nput_2 (h : NOk w x) (h0 : noteE x = 0) (hu : NU x) (hk : x.k = 2) : Calls Tryz.prog 88 #[nagg x] w fun e w' => e = .returned (.tuple #[.string (ofL (putN x)),.int .i64 0]) /\ Kept NoF w w' := by
 have hP : putN x = put 2 ++ (put x.n.toNat ++ putT (entR (entOf x))) := by unfold putN;rw [hk];rfl
 rw [hP]
 obtain ⟨W0,hW0⟩ : ∃ W0,w.alloc (.cells (ncell x).toArray 116) = W0 := ⟨_,rfl⟩
 have hk0 : Kept NoF w W0 := by rw [<- hW0];(repeat' (first | (with_reducible first | exact kR0 | apply kP0 | apply kN0 | apply kD0 | apply kA0) | (right;simp;done)))
 have hn0 : Has W0 w.heap.size 116 (ncell x).toArray := by rw [<- hW0];exact Has.new _ _ _
 have hchk := ncheck_any W0 x (h.kept hk0)
 rw [h0] at hchk
 have hq : ∀ W,Has W w.heap.size 116 (ncell x).toArray -> W.cell? ⟨w.heap.size,0,none⟩ = some (.int .i64 2) := fun W hW => by
  have h0 : W.cell? ⟨w.heap.size,0,none⟩ = some (.int .i64 x.k) := hW.cell 0
  rw [hk] at h0
  exact h0
 have hz : (if rngL [x.n] = 0 then Ops.chk x.b else rngL [x.n]) = 0 := by
  unfold noteE at h0
  rw [hk] at h0
  exact h0
 have hn0' : rngL [x.n] = 0 := by
  by_cases hn : rngL [x.n] = 0
  ·exact hn
  ·rw [if_neg hn] at hz;exact absurd hz hn
 obtain ⟨n,hn⟩ : ∃ n : Nat,x.n = n := ⟨(x.n).toNat,by have := rng_in hn0';omega⟩
 have hcn : ∀ W,Has W w.heap.size 116 (ncell x).toArray -> W.cell? ⟨w.heap.size,1,none⟩ = some (.int .i64 (n : Int)) := fun W hW => by
  have h0 : W.cell? ⟨w.heap.size,1,none⟩ = some (.int .i64 (x.n)) := hW.cell 1
  rw [hn] at h0
  exact h0
 have hbn := rng_in hn0'
 rw [hn] at hbn ⊢
 rw [Int.toNat_natCast]
 have HCn := hZ0 hcn;have HBn := hZ0 hbn
 clear hcn hbn hn
 clear hz hn0'
 have hcall := fun W (hW : Kept NoF w W) => iput_any W (entOf x) (h.o.kept hW (fun _ _ z => z)) hu.2.2.2
 have hsz := entR_len (e := entOf x) hu.2.2.2
 obtain ⟨s,hs⟩ : ∃ s,entR (entOf x) = s := ⟨_,rfl⟩
 obtain ⟨z,hz⟩ : ∃ z,Ops.chk (bat (entOf x)) = z := ⟨_,rfl⟩
 rw [hs] at hcall hsz ⊢
 rw [hz] at hcall
 dsimp only [entOf,eagg] at hcall
 have HCC := hZ0 hcall;have HSZ := hZ0 hsz
 clear hcall hsz hs hz
 have HC := hZ0 hchk;have HQ := hZ0 hq;have HK0 := hZ0 hk0;have HN0 := hZ0 hn0;have HX := hZ0 h;have HU := hZ0 hu
 clear hchk hq hk0 hn0 h hu h0 hP hk
 go_enter Tryz.func88,Tryz.ntmps88
 go_wp2_with (refine wpList_load_row rfl 116 (.tmp 1) rfl w.heap.size rfl 116 _ (0,0) _ HN0.out Tryz.underlying116 rfl (by kernel_rfl) ?_)
 clear hW0
 refine HC.out.mono ?_
 rintro e w2 ⟨rfl,hk2⟩
 have HN2 := hZ0 (HN0.out.kept hk2 (fun z => z));have HK2 := hZ0 (HK0.out.then hk2);clear hk2
 have c0 := HQ.out _ HN2.out
 have hnew : ∀ W,Has W w.heap.size 116 (ncell x).toArray -> Calls Tryz.prog 151 #[] W fun e w' => ∃ g,e = .returned (.pointer (some ⟨g,0,none⟩)) /\ WS W.heap.size w' g [] [(w.heap.size,116,(ncell x).toArray)] /\ Kept NoF W w' :=
  fun W hW => new_s W _ (fun y hy => by simp at hy;subst hy;exact hW)
 have HNEW := hZ0 hnew;clear hnew
 go_wp2_with fail
 go_region_held3 (fun W => W.cell? ⟨w.heap.size,0,none⟩ = some (.int .i64 2)) (first | with_reducible exact q5 | with_reducible exact q4 | with_reducible exact c0 | (simp [go_sem,c0];done))
  (first
   | (go_at_call 151;refine (HNEW.out _ (by exact HN2.out)).mono ?_;rintro e w4 ⟨g,rfl,hw4,hkk4⟩;have q4 := HQ.out _ (hw4.has (List.mem_singleton.2 rfl));have HW4 := hZ0 hw4;have HKK4 := hZ0 hkk4;clear hw4 hkk4)
   | (go_at_call 152;refine (num_s (by exact HW4.out) 2 (by omega) (by simp)).mono ?_;rintro e w5 ⟨rfl,hw5,hb5⟩;have q5 := HQ.out _ (hw5.has (List.mem_singleton.2 rfl));have HW5 := hZ0 hw5;have HB5 := hZ0 hb5;clear hw5 hb5))
 have hk4 : Kept NoF w w4 := Kept.then (by (repeat' (first | (with_reducible first | exact kR0 | apply kP0 | apply kN0 | apply kD0 | apply kA0) | (with_reducible exact HK2.out) | (right;simp;done)))) HKK4.out
 have hle : w.heap.size <= w2.heap.size := HK2.out.size
 have hk5 : Kept NoF w w5 := behind hk4 HB5.out hle
 have hw5 := HW5.out
 simp only [List.nil_append] at hw5
 clear q4 c0 HW4 HW5 HB5 HKK4 hk4 HNEW HC
 have HW5 := hZ0 hw5;have HK5 := hZ0 hk5;have HLE := hZ0 hle;clear hw5 hk5 hle
 have hpl := putN_len (n := 2) (by omega)
 have hne : put 2 ≠ [] := by
  intro e
  have h1 := put_pos 2
  rw [e] at h1
  simp at h1
 have HH := hZ0 (And.intro hpl hne);clear hpl hne
 have hn5 := HW5.out.has (List.mem_singleton.2 rfl)
 have u7 : w5.cell? ⟨w.heap.size,7,none⟩ = some (.int .i64 x.b.cl) := hn5.cell 7
 have u8 : w5.cell? ⟨w.heap.size,8,none⟩ = some (.int .i64 x.b.req) := hn5.cell 8
 have u9 : w5.cell? ⟨w.heap.size,9,none⟩ = some (.slice x.oA x.b.ops.length x.oc) := hn5.cell 9
 have u10 : w5.cell? ⟨w.heap.size,10,none⟩ = some (.int .u64 x.ts) := hn5.cell 10
 clear hn5 q5
 go_wp2_with fail
 refine (HCC.out _ HK5.out).mono ?_
 rintro e w6 ⟨rfl,hk6⟩
 have HW6 := hZ0 (WS.kept (G := NoF) HW5.out hk6);have HK6 := hZ0 (HK5.out.then hk6);clear hk6 u7 u8 u9 u10
 have u1 := HCn.out _ (HW6.out.has (List.mem_singleton.2 rfl))
 go_wp2_with fail
 refine (num_s HW6.out n (by have := HBn.out;omega) (by have := HH.out.1;omega)).mono ?_
 rintro e w7 ⟨rfl,hw7,hb7⟩
 have HW7 := hZ0 hw7;have HK7 := hZ0 (behind HK6.out hb7 HLE.out);clear hw7 hb7 u1
 go_wp2_with fail
 refine (text_s HW7.out s (by have := HH.out.1;have := HSZ.out;have := putN_len (n := n) (by have := HBn.out;omega);simp;omega)).mono ?_
 rintro e w8 ⟨rfl,hw8,hb8⟩
 have HWF := hZ0 hw8;have HKF := hZ0 (behind HK7.out hb8 HLE.out);clear hw8 hb8
 go_wp2_with fail
 refine (done_s HWF.out (by have := HH.out.2;simp;intro h;exact absurd h this)).mono ?_
 rintro e wf ⟨rfl,hbf⟩
 have HKD := hZ0 (behind HKF.out hbf HLE.out);clear hbf
 go_wp2
 go_ret2
 exact ⟨by simp only [List.append_assoc];rfl,HKD.out⟩
theorem nput_1 (h : NOk w x) (h0 : noteE x = 0) (hu : NU x) (hk : x.k = 1) : Calls Tryz.prog 88 #[nagg x] w fun e w' => e = .returned (.tuple #[.string (ofL (putN x)),.int .i64 0]) /\ Kept NoF w w' := by
 have hP : putN x = put 1 ++ (putT (confR x.ep x.ms x.fl) ++ put x.lg.length ++ x.lg.flatMap (fun i => put i.toNat)) := by unfold putN;rw [hk];rfl
 rw [hP]
 obtain ⟨W0,hW0⟩ : ∃ W0,w.alloc (.cells (ncell x).toArray 116) = W0 := ⟨_,rfl⟩
 have hk0 : Kept NoF w W0 := by rw [<- hW0];(repeat' (first | (with_reducible first | exact kR0 | apply kP0 | apply kN0 | apply kD0 | apply kA0) | (right;simp;done)))
 have hn0 : Has W0 w.heap.size 116 (ncell x).toArray := by rw [<- hW0];exact Has.new _ _ _
 have hchk := ncheck_any W0 x (h.kept hk0)
 rw [h0] at hchk
 have hq : ∀ W,Has W w.heap.size 116 (ncell x).toArray -> W.cell? ⟨w.heap.size,0,none⟩ = some (.int .i64 1) := fun W hW => by
  have h0 : W.cell? ⟨w.heap.size,0,none⟩ = some (.int .i64 x.k) := hW.cell 0
  rw [hk] at h0
  exact h0
 have hz : (if Plan.chk x.ep x.ms = 0 then legE x.lg else Plan.chk x.ep x.ms) = 0 := by
  unfold noteE at h0
  rw [hk] at h0
  exact h0
 have hc0 : Plan.chk x.ep x.ms = 0 := by
  by_cases hc : Plan.chk x.ep x.ms = 0
  ·exact hc
  ·rw [if_neg hc] at hz;exact absurd hz hc
 rw [if_pos hc0] at hz
 have hleg := leg_in hz
 have hcl : ∀ W,Has W w.heap.size 116 (ncell x).toArray -> W.cell? ⟨w.heap.size,6,none⟩ = some (.slice x.lA x.lg.length x.lc) := fun W hW => hW.cell 6
 have hsl := h.l
 obtain ⟨l,hl⟩ : ∃ l,x.lg = l := ⟨_,rfl⟩
 obtain ⟨A,hA⟩ : ∃ A,x.lA = A := ⟨_,rfl⟩
 rw [hl] at hcl hleg hsl ⊢
 rw [hA] at hcl hsl
 have hcall := fun W (hW : Kept NoF w W) => cput_any W x.ep x.fl x.mA x.mc x.ms (h.m.kept hW (fun _ _ z => z)) h.mc h.ml hu.2.2.1
 have hsz := confR_len (ep := x.ep) (ms := x.ms) hu.2.2.1
 obtain ⟨s,hs⟩ : ∃ s,confR x.ep x.ms x.fl = s := ⟨_,rfl⟩
 obtain ⟨z,hz2⟩ : ∃ z,Plan.chk x.ep x.ms = z := ⟨_,rfl⟩
 rw [hs] at hcall hsz ⊢
 rw [hz2] at hcall
 have HCC := hZ0 hcall;have HSZ := hZ0 hsz
 have HCL := hZ0 hcl;have HLEG := hZ0 hleg;have HSL := hZ0 hsl
 clear hz hc0 hl hA hcl hleg hsl hcall hsz hs hz2
 have HC := hZ0 hchk;have HQ := hZ0 hq;have HK0 := hZ0 hk0;have HN0 := hZ0 hn0;have HX := hZ0 h;have HU := hZ0 hu
 clear hchk hq hk0 hn0 h hu h0 hP hk
 go_enter Tryz.func88,Tryz.ntmps88
 go_wp2_with (refine wpList_load_row rfl 116 (.tmp 1) rfl w.heap.size rfl 116 _ (0,0) _ HN0.out Tryz.underlying116 rfl (by kernel_rfl) ?_)
 clear hW0
 refine HC.out.mono ?_
 rintro e w2 ⟨rfl,hk2⟩
 have HN2 := hZ0 (HN0.out.kept hk2 (fun z => z));have HK2 := hZ0 (HK0.out.then hk2);clear hk2
 have c0 := HQ.out _ HN2.out
 have hnew : ∀ W,Has W w.heap.size 116 (ncell x).toArray -> Calls Tryz.prog 151 #[] W fun e w' => ∃ g,e = .returned (.pointer (some ⟨g,0,none⟩)) /\ WS W.heap.size w' g [] [(w.heap.size,116,(ncell x).toArray)] /\ Kept NoF W w' :=
  fun W hW => new_s W _ (fun y hy => by simp at hy;subst hy;exact hW)
 have HNEW := hZ0 hnew;clear hnew
 go_wp2_with fail
 go_region_held3 (fun W => W.cell? ⟨w.heap.size,0,none⟩ = some (.int .i64 1)) (first | with_reducible exact q5 | with_reducible exact q4 | with_reducible exact c0 | (simp [go_sem,c0];done))
  (first
   | (go_at_call 151;refine (HNEW.out _ (by exact HN2.out)).mono ?_;rintro e w4 ⟨g,rfl,hw4,hkk4⟩;have q4 := HQ.out _ (hw4.has (List.mem_singleton.2 rfl));have HW4 := hZ0 hw4;have HKK4 := hZ0 hkk4;clear hw4 hkk4)
   | (go_at_call 152;refine (num_s (by exact HW4.out) 1 (by omega) (by simp)).mono ?_;rintro e w5 ⟨rfl,hw5,hb5⟩;have q5 := HQ.out _ (hw5.has (List.mem_singleton.2 rfl));have HW5 := hZ0 hw5;have HB5 := hZ0 hb5;clear hw5 hb5))
 have hk4 : Kept NoF w w4 := Kept.then (by (repeat' (first | (with_reducible first | exact kR0 | apply kP0 | apply kN0 | apply kD0 | apply kA0) | (with_reducible exact HK2.out) | (right;simp;done)))) HKK4.out
 have hle : w.heap.size <= w2.heap.size := HK2.out.size
 have hk5 : Kept NoF w w5 := behind hk4 HB5.out hle
 have hw5 := HW5.out
 simp only [List.nil_append] at hw5
 clear q4 c0 HW4 HW5 HB5 HKK4 hk4 HNEW HC
 have HW5 := hZ0 hw5;have HK5 := hZ0 hk5;have HLE := hZ0 hle;clear hw5 hk5 hle
 have hpl := putN_len (n := 1) (by omega)
 have hne : put 1 ≠ [] := by
  intro e
  have h1 := put_pos 1
  rw [e] at h1
  simp at h1
 have HH := hZ0 (And.intro hpl hne);clear hpl hne
 have hn5 := HW5.out.has (List.mem_singleton.2 rfl)
 have u3 : w5.cell? ⟨w.heap.size,3,none⟩ = some (.int .i64 x.ep) := hn5.cell 3
 have u4 : w5.cell? ⟨w.heap.size,4,none⟩ = some (.slice x.mA x.ms.length x.mc) := hn5.cell 4
 have u5 : w5.cell? ⟨w.heap.size,5,none⟩ = some (.int .u64 x.fl) := hn5.cell 5
 clear hn5 q5
 go_wp2_with fail
 refine (HCC.out _ HK5.out).mono ?_
 rintro e w6 ⟨rfl,hk6⟩
 have HW6 := hZ0 (WS.kept (G := NoF) HW5.out hk6);have HK6 := hZ0 (HK5.out.then hk6);clear hk6 u3 u4 u5
 have hll := putN_len (n := l.length) (by have := HLEG.out.1;omega)
 have HLL := hZ0 hll;clear hll
 have r0 : w6.cell? ⟨w.heap.size,6,none⟩ = some (.slice A l.length x.lc) := HCL.out _ (HW6.out.has (List.mem_singleton.2 rfl))
 go_wp2_with fail
 go_region_held3 (fun W => W.cell? ⟨w.heap.size,6,none⟩ = some (.slice A l.length x.lc)) (first | with_reducible exact r2 | with_reducible exact r1 | with_reducible exact r0 | (simp [go_sem,r0];done))
  (first
   | (go_at_call 152;refine (num_s (by exact HV1.out) l.length (by have := HLEG.out.1;omega) (by have := HH.out.1;have := HSZ.out;have := putT_len HSZ.out (by omega);simp;omega)).mono ?_;rintro e v2 ⟨rfl,hv,hd⟩;have r2 : v2.cell? ⟨w.heap.size,6,none⟩ = some (.slice A l.length x.lc) := HCL.out _ (hv.has (List.mem_singleton.2 rfl));have HV2 := hZ0 hv;have HD2 := hZ0 hd;clear hv hd)
   | (go_at_call 154;refine (text_s (by exact HW6.out) s (by have := HH.out.1;have := HSZ.out;omega)).mono ?_;rintro e v1 ⟨rfl,hv,hd⟩;have r1 : v1.cell? ⟨w.heap.size,6,none⟩ = some (.slice A l.length x.lc) := HCL.out _ (hv.has (List.mem_singleton.2 rfl));have HV1 := hZ0 hv;have HD1 := hZ0 hd;clear hv hd))
 have hkf : Kept NoF w v2 := behind (behind (by (repeat' (first | (with_reducible first | exact kR0 | apply kP0 | apply kN0 | apply kD0 | apply kA0) | (with_reducible exact HK6.out) | (right;simp;done)))) HD1.out HLE.out) HD2.out HLE.out
 have HKF := hZ0 hkf
 clear hkf r0 r1 HV1 HD1 HD2
 have hb : (put 1 ++ putT s ++ put l.length).length <= 1000 := by
  have h1 := HH.out.1
  have h2 := HLL.out
  have h3 := putT_len HSZ.out (by omega)
  simp only [List.length_append]
  omega
 obtain ⟨hdr,hhdr⟩ : ∃ hdr,put 1 ++ putT s ++ put l.length = hdr := ⟨_,rfl⟩
 have hv2 := HV2.out
 rw [hhdr] at hv2 hb
 have HV2 := hZ0 hv2;have HHD := hZ0 (And.intro hhdr hb);clear hv2 hhdr hb
 have r2' := HCL.out _ (HV2.out.has (List.mem_singleton.2 rfl))
 go_wp2
 go_loopw [54] (fun v wr => ∃ i : Nat,i <= l.length /\ v = .int .i64 i /\ WS w2.heap.size wr g (hdr ++ (l.take i).flatMap (fun i : Int => put i.toNat)) [(w.heap.size,116,(ncell x).toArray)] /\ Kept NoF w wr) (fun v _ => l.length - (intOf v).toNat)
 case atStart => exact ⟨0,Nat.zero_le _,rfl,by rw [List.take_zero,List.flatMap_nil,List.append_nil];exact HV2.out,HKF.out⟩
 case round =>
  obtain ⟨i,hi,rfl,hws,hk⟩ := hrel
  have HK := hZ0 hk;clear hk
  have hnl := HLEG.out.1
  by_cases hil : i < l.length
  ·obtain ⟨y,hy⟩ : ∃ y,l[i]? = some y := ⟨_,List.getElem?_eq_getElem hil⟩
   have hyi : l[i] = y := by rw [List.getElem?_eq_getElem hil] at hy;exact Option.some.inj hy
   have hyb := HLEG.out.2 y (List.mem_of_getElem? hy)
   have hflat := flat_succ (fun i : Int => put i.toNat) l i hil
   rw [hyi] at hflat
   have hfl := flatLen (fun i : Int => put i.toNat) (l.take i) 9 (fun y hy2 => by
    have b := HLEG.out.2 y (List.mem_of_mem_take hy2)
    exact putN_len (by omega))
   have hmin : (l.take i).length <= 4 := by rw [List.length_take];omega
   have hLB : (hdr ++ (l.take i).flatMap (fun i : Int => put i.toNat)).length <= 2000 := by rw [List.length_append];have := HHD.out.2;omega
   obtain ⟨cur,hcur⟩ : ∃ cur,hdr ++ (l.take i).flatMap (fun i : Int => put i.toNat) = cur := ⟨_,rfl⟩
   rw [hcur] at hws hLB
   obtain ⟨ad,rfl,had,e0⟩ := int_cells (HSL.out.kept HK.out (fun _ _ z => z)) (by omega) i y hy
   obtain ⟨n,rfl⟩ : ∃ n : Nat,y = n := ⟨y.toNat,by omega⟩
   have hnext : hdr ++ (l.take (i + 1)).flatMap (fun i : Int => put i.toNat) = cur ++ put n := by
    rw [hflat,<- List.append_assoc,hcur,Int.toNat_natCast]
   have HNX := hZ0 hnext;have HLB := hZ0 hLB;have HYB := hZ0 hyb;have HWS := hZ0 hws
   clear hnext hflat hfl hcur hmin hy hyi hyb hLB hws
   go_wp2_with fail
   refine (num_s HWS.out n (by have := HYB.out;omega) (by have := HLB.out;omega)).mono ?_
   rintro e w8 ⟨rfl,hw8,hb8⟩
   rw [<- HNX.out] at hw8
   have HW8 := hZ0 hw8;have HK8 := hZ0 (behind HK.out hb8 HLE.out);clear hw8 hb8
   go_wp2
   go_roundw
   case rel => exact ⟨i + 1,by omega,by go_num,HW8.out,HK8.out⟩
   case measure => simp [intOf];omega
  ·obtain rfl : i = l.length := by omega
   rw [List.take_length,<- HHD.out.1] at hws
   have HWF := hZ0 hws;clear hws
   have HKF2 := HK
   clear HKF
   have HKF := HKF2
   clear HKF2
   go_wp2_with fail
   refine (done_s HWF.out (by have := HH.out.2;simp;intro h;exact absurd h this)).mono ?_
   rintro e wf ⟨rfl,hbf⟩
   have HKD := hZ0 (behind HKF.out hbf HLE.out);clear hbf
   go_wp2
   go_ret2
   exact ⟨by simp only [List.append_assoc];rfl,HKD.out⟩
theorem nput_any (h : NOk w x) (hu : NU x) : Calls Tryz.prog 88 #[nagg x] w fun e w' => e = .returned (.tuple #[.string (noteB x),.int .i64 (noteE x)]) /\ Kept NoF w w' := by
 unfold noteB
 by_cases h0 : noteE x = 0
 ·rw [if_pos h0,h0]
  have hk : x.k = 1 \/ x.k = 2 \/ x.k = 3 \/ x.k = 4 \/ x.k = 5 \/ x.k = 6 \/ x.k = 7 \/ x.k = 8 := by
   unfold noteE at h0
   by_cases h1 : x.k = 1;exact .inl h1
   by_cases h2 : x.k = 2;exact .inr (.inl h2)
   rw [if_neg h1,if_neg h2] at h0
   by_cases h3 : x.k = 3 \/ x.k = 4 \/ x.k = 5 \/ x.k = 7;omega
   rw [if_neg h3] at h0
   by_cases h6 : x.k = 6;omega
   rw [if_neg h6] at h0
   by_cases h8 : x.k = 8;omega
   rw [if_neg h8] at h0
   cases h0
  rcases hk with hk | hk | hk | hk | hk | hk | hk | hk
  ·exact nput_1 h h0 hu hk
  ·exact nput_2 h h0 hu hk
  ·exact nput_3 h h0 hu hk
  ·exact nput_4 h h0 hu hk
  ·exact nput_5 h h0 hu hk
  ·exact nput_6 h h0 hu hk
  ·exact nput_7 h h0 hu hk
  ·exact nput_8 h h0 hu hk
 ·rw [if_neg h0]
  exact nput_bad h h0
end
end Nte
end Go.Proofs.YtgffjliedjhbaaaGreat

/- Part 52 of what the proof needs. -/
import Derived.Test.YtolkgbafebehfaaGreatHP49
set_option linter.unusedSimpArgs false
set_option linter.unusedVariables false
set_option maxHeartbeats 32000000
set_option maxRecDepth 100000
namespace Go.Proofs.YtolkgbafebehfaaGreat
open Go.RowKit
set_option maxRecDepth 100000
namespace Mas
open Plan Vn Mst Wat IM Nte Msg
section
variable {w w' : World} {X X0 : MX} {M M0 : MR} {c k : Nat}
theorem u64s_snoc (l : List Int) (x : Int) : u64s (l ++ [x]) = u64s l ++ [.int .u64 x] := by unfold u64s;rw [List.map_append];rfl
theorem marksL_succ {M : MR} {i : Nat} {m : Mem} (h : M.st.ms[i]? = some m) : marksL M (i + 1) = marksL M i ++ [(M.marks m.1).getD 0] := by
 obtain ⟨hi,he⟩ := List.getElem?_eq_some_iff.1 h
 unfold marksL
 rw [List.take_succ_eq_append_getElem hi,he,List.map_append]
 rfl
theorem known_succ {M : MR} {i : Nat} {m : Mem} (h : M.st.ms[i]? = some m) : known M (i + 1) = (known M i && (M.marks m.1).isSome) := by
 obtain ⟨hi,he⟩ := List.getElem?_eq_some_iff.1 h
 unfold known
 rw [List.take_succ_eq_append_getElem hi,he,List.all_append]
 simp
theorem known_not {M : MR} {i n : Nat} (hn : i <= n) (h : known M i = false) : known M n = false := by
 cases hk : known M n with
 | false => rfl
 | true =>
  unfold known at h hk
  rw [List.all_eq_true] at hk
  rw [List.all_eq_false] at h
  obtain ⟨x,hx,h2⟩ := h
  exact absurd (hk x ((List.take_subset_take_left _ hn) hx)) h2
theorem marksL_le (M : MR) (i : Nat) : (marksL M i).length <= M.st.ms.length := by
 rw [marksL_len,List.length_take];omega
theorem horizonAny (w : World) (old : Int) (A B : Option Addr) (c d : Nat) (l : List Int) (p : List PinR) (hm : Src w 1 A l.length (u64s l)) (hlc : l.length <= c) (hlen : l.length <= 1000) (hl : Src w 3 B p.length (pcells p)) (hll : p.length <= 1000) (hold : 0 <= old /\ old <= maxTs) (hmr : ∀ x ∈ l,0 <= x /\ x <= maxTs) :
  Calls Tryz.prog 150 #[.int .u64 old,.slice A l.length c,.slice B p.length d] w fun e w' => e = .returned (.int .u64 (Lea.horOf old l p)) /\ Kept NoF w w' := by
 cases l with
 | nil =>
  refine (Lea.hor_nil w old A B c p.length d).mono ?_
  rintro e w' ⟨rfl,rfl⟩
  exact ⟨rfl,Kept.refl _ _⟩
 | cons m r => exact Lea.hor_any w old A B c d m r p hm hlc (by simp at hlen;omega) hl (by omega) hold hmr
attribute [local go_sem] run_field_ms
theorem horizon_any' (h : MAt w X M) (hb : LgB X M.lg c) (hc : c <= 4000) (hm : MOk M k) :
  Calls Tryz.prog 65 #[.pointer (some ⟨X.mb,0,none⟩)] w (MPost w X M c (.tuple #[]) (horizonM M) 1) := by
 have hcell : ∀ W,Kept NoF w W -> W.cell? ⟨X.mb,2,none⟩ = some (.pointer (some ⟨X.sb,0,none⟩)) /\ W.cell? ⟨X.mb,3,none⟩ = some (.slice X.pA M.pins.length X.pc) := fun W hW => ⟨(h.quiet hW).cell (i := 2) rfl,(h.quiet hW).cell (i := 3) rfl⟩
 have hconf := conf_at (h.c 2) hm.st.inv.ok
 have hhor : ∀ W,Kept NoF w W -> Calls Tryz.prog 69 #[.pointer (some ⟨X.sb,0,none⟩)] W fun e w' => e = .returned (.int .u64 M.st.hz) /\ Kept NoF W w' := fun W hW => horizon_at ((h.quiet hW).c 2)
 have hok := hm.st.inv.ok
 have hlook : ∀ W,Kept NoF w W -> ∀ id : Int,I64 id -> W.cell? ⟨X.mb,5,none⟩ = some (.map (some X.mm)) /\ (Instr.lookup 60 (.map (some X.mm)) (.int .i64 id) true).run Tryz.prog W = .ok (.tuple #[.int .u64 ((M.marks id).getD 0),.bool (M.marks id).isSome]) W := fun W hW id hi =>
  ⟨(h.quiet hW).cell (i := 5) rfl,IMap.look_ok ((h.quiet hW).c 5) Tryz.underlying60 Tryz.underlying23 rfl hi⟩
 have hag : ∀ W A c1,Kept NoF w W -> Src W 1 A (marksL M M.st.ms.length).length (u64s (marksL M M.st.ms.length)) -> (marksL M M.st.ms.length).length <= c1 -> Calls Tryz.prog 150 #[.int .u64 M.st.hz,.slice A (marksL M M.st.ms.length).length c1,.slice X.pA M.pins.length X.pc] W fun e w' => e = .returned (.int .u64 (horNew M)) /\ Kept NoF W w' := fun W A c1 hW hs hl =>
  horizonAny W M.st.hz A X.pA c1 X.pc _ M.pins hs hl (by have := marksL_le M M.st.ms.length;have := hok.m;omega) (Src.of_own ((h.quiet hW).c 3)) (by have := hm.p3;omega) hm.st.su.hz (marksL_in hm _)
 have hni := horNew_in hm
 have hwr : ∀ W,Kept NoF w W -> Calls Tryz.prog 44 #[.pointer (some ⟨X.mb,0,none⟩),.agg (ncell (hnote (horNew M))).toArray] W fun e w' => (∃ z : Int,e = .returned (.int .i64 z)) /\ ∃ X',Step w X M w' X' (writeM M (hnote (horNew M))) /\ LgB X' (writeM M (hnote (horNew M))).lg (c + 1) := fun W hW => by
  refine (write_any (h.quiet hW) hb hc hok (hnote (horNew M)) ⟨Src.nil _ _ _,Nat.le_refl _,Nat.zero_le _,Src.nil _ _ _,Nat.le_refl _,Nat.zero_le _,Src.nil _ _ _⟩ (nhor_u hni) ⟨fun h => absurd h (Nat.lt_irrefl _),fun h => absurd h (Nat.lt_irrefl _),fun h => absurd h (Nat.lt_irrefl _)⟩).mono ?_
  rintro e w' ⟨rfl,X',h1,h2⟩
  exact ⟨⟨_,rfl⟩,X',(Step.refl h hW).trans h1,h2⟩
 have hout : ∀ i,i <= M.st.ms.length -> known M i = false -> ∀ W,Kept NoF w W -> MPost w X M c (.tuple #[]) (horizonM M) 1 (.returned (.tuple #[])) W := fun i hi hk0 W hW => by
  have e1 : horizonM M = M := by unfold horizonM;rw [known_not hi hk0,if_neg (by decide)]
  rw [e1]
  exact ⟨rfl,X,Step.refl h hW,hb.mono (Nat.le_succ _)⟩
 have hlow : known M M.st.ms.length = true -> ¬ M.st.hz < horNew M -> ∀ W,Kept NoF w W -> MPost w X M c (.tuple #[]) (horizonM M) 1 (.returned (.tuple #[])) W := fun hk0 hlt W hW => by
  have e1 : horizonM M = M := by unfold horizonM;rw [if_pos hk0,if_neg hlt]
  rw [e1]
  exact ⟨rfl,X,Step.refl h hW,hb.mono (Nat.le_succ _)⟩
 have hup : known M M.st.ms.length = true -> M.st.hz < horNew M -> horizonM M = writeM M (hnote (horNew M)) := fun hk0 hlt => by unfold horizonM;rw [if_pos hk0,if_pos hlt]
 have hmi := ms_i64 hm.st
 have hml := hok.m
 have hms : ∀ i m,M.st.ms[i]? = some m -> marksL M (i + 1) = marksL M i ++ [(M.marks m.1).getD 0] /\ known M (i + 1) = (known M i && (M.marks m.1).isSome) := fun i m h => ⟨marksL_succ h,known_succ h⟩
 have hle := fun i => marksL_le M i
 have hN0 : known M 0 = true := by unfold known;simp
 have hM0 : marksL M 0 = [] := by unfold marksL;simp
 obtain ⟨H9,hH9⟩ : ∃ H9,horNew M = H9 := ⟨_,rfl⟩
 obtain ⟨hz,hhz⟩ : ∃ hz,M.st.hz = hz := ⟨_,rfl⟩
 simp only [hH9] at hag hwr hlow hup
 simp only [hhz] at hhor hag hlow hup
 obtain ⟨ep,hep⟩ : ∃ ep,M.st.ep = ep := ⟨_,rfl⟩
 obtain ⟨fl,hfl⟩ : ∃ fl,M.st.fl = fl := ⟨_,rfl⟩
 obtain ⟨ms,hmss⟩ : ∃ ms,M.st.ms = ms := ⟨_,rfl⟩
 rw [hep,hfl,hmss] at hconf
 rw [hmss] at hmi hml hlow hup
 simp only [hmss] at hag hout hms hle
 obtain ⟨M9,hM9⟩ : ∃ M9,horizonM M = M9 := ⟨_,rfl⟩
 rw [hM9] at hout hlow hup ⊢
 simp only [hnote,zn,ncell,List.length_nil,ans0] at hwr
 have HCELL := hZ0 hcell;have HCONF := hZ0 hconf;have HHOR := hZ0 hhor;have HLOOK := hZ0 hlook;have HAG := hZ0 hag;have HWR := hZ0 hwr;have HOUT := hZ0 hout;have HLOW := hZ0 hlow;have HUP := hZ0 hup;have HMI := hZ0 hmi;have HML := hZ0 hml;have HMS := hZ0 hms;have HLE := hZ0 hle;have HN0 := hZ0 hN0;have HM0 := hZ0 hM0
 obtain ⟨z2,z3⟩ := hcell w (Kept.refl _ _)
 clear hcell hconf hhor hok hlook hag hni hwr hout hlow hup hmi hml hms hle hN0 hM0 hH9 hhz hep hfl hmss hM9 h hb hc hm
 go_enter Tryz.func65,Tryz.ntmps65
 go_wp2_with fail
 clear z2 z3
 refine HCONF.out.mono ?_
 rintro e w1 ⟨A0,c0,rfl,hr0,hk1⟩
 have HR0 := hZ0 hr0;have HK1 := hZ0 hk1;clear hr0 hk1
 go_wp2_with fail
 go_loopw [2,5,6,15] (fun v2 v5 v6 v15 wr => ∃ (i : Nat) (A : Option Addr) (c : Nat),i <= ms.length /\ v15 = .int .i64 i /\ v2 = .slice A (marksL M i).length c /\ NewSl 23 1 w1.heap.size wr A (marksL M i).length c (u64s (marksL M i)) /\ known M i = true /\ Kept NoF w1 wr) (fun _ _ _ v15 _ => ms.length - (intOf v15).toNat)
 case atStart => exact ⟨0,none,0,Nat.zero_le _,rfl,by rw [HM0.out];rfl,by rw [HM0.out];exact NewSl.nil _ _ _ _,HN0.out,Kept.refl _ _⟩
 case round =>
  obtain ⟨i,A,c1,hi,rfl,rfl,hr,hkn,hk⟩ := hrel
  have HKN := hZ0 hkn;have HK := hZ0 hk;have HR := hZ0 hr;clear hkn hk hr
  by_cases hil : i < ms.length
  ·obtain ⟨m,hm⟩ : ∃ m,ms[i]? = some m := ⟨_,List.getElem?_eq_getElem hil⟩
   obtain ⟨hs1,hs2⟩ := HMS.out i m hm
   have hmi := HMI.out m (List.mem_of_getElem? hm)
   obtain ⟨ad,rfl,had,d0,d1⟩ := mem_cells ((Src.of_own HR0.out.1).kept HK.out (fun _ _ x => x)) (by omega) i m hm
   have hlk : ∀ W,Kept NoF w1 W -> W.cell? ⟨X.mb,5,none⟩ = some (.map (some X.mm)) /\ (Instr.lookup 60 (.map (some X.mm)) (.int .i64 m.1) true).run Tryz.prog W = .ok (.tuple #[.int .u64 ((M.marks m.1).getD 0),.bool (M.marks m.1).isSome]) W := fun W hW => HLOOK.out W (HK1.out.then hW) m.1 hmi
   have hle := HLE.out i
   have hml := HML.out
   obtain ⟨v,hv⟩ : ∃ v,(M.marks m.1).getD 0 = v := ⟨_,rfl⟩
   obtain ⟨b,hb⟩ : ∃ b,(M.marks m.1).isSome = b := ⟨_,rfl⟩
   rw [hv] at hs1
   rw [HKN.out,hb,Bool.true_and] at hs2
   simp only [hv,hb] at hlk
   obtain ⟨L,hL⟩ : ∃ L,marksL M i = L := ⟨_,rfl⟩
   rw [hL] at hs1 hle HR ⊢
   have HS1 := hZ0 hs1;have HS2 := hZ0 hs2;have HLK := hZ0 hlk
   have HMA : Hid (L.length + 1 <= maxLen) := hZ0 (by unfold maxLen;omega)
   have HMB : Hid ((L.length + 1) * 8 <= 140737488355328) := hZ0 (by omega)
   obtain ⟨W1,hW1⟩ : ∃ W1,wr.alloc (.cells #[.int .i64 m.1,.int .i64 m.2] 53) = W1 := ⟨_,rfl⟩
   have hkw : Kept NoF wr W1 := by rw [<- hW1];(repeat' (first | (with_reducible first | exact kR0 | apply kP0 | apply kN0 | apply kD0 | apply kA0) | (right;simp;done)))
   have hnb : Has W1 wr.heap.size 53 #[.int .i64 m.1,.int .i64 m.2] := by rw [<- hW1];exact Has.new _ _ _
   have q0 : W1.cell? ⟨wr.heap.size,0,none⟩ = some (.int .i64 m.1) := hnb.cell 0
   have q5 := (hlk W1 (HK.out.then hkw)).1
   have l5 : ∀ n,_ := fun n => (hlk (W1.drewN n) (HK.out.then (hkw.drewN n))).2
   have HKW := hZ0 hkw
   obtain ⟨m1,m2⟩ := m
   dsimp only at d0 d1 hW1 q0 l5
   clear hs1 hs2 hlk hv hb hL hm hmi hkw hnb
   cases b
   ·go_wp2_with fail
    go_quiet (fail)
    go_wp2
    refine bodyPost_ret (v := .tuple #[]) (by simp [results,Tryz.results65,go_sem]) rfl ?_
    exact HOUT.out (i + 1) (by omega) HS2.out _ (by (repeat' (first | (with_reducible first | exact kR0 | apply kP0 | apply kN0 | apply kD0 | apply kA0) | (exact HK1.out.then (HK.out.then HKW.out)) | (right;simp;done))))
   ·go_wp2_with fail
    go_quiet (fail)
    go_wp2_with (at_builtin;refine list_append_src Lea.elemU64 (.tmp 31) (.tmp 33) rfl rfl (Value.slice A L.length c1) rfl (own_kept HR.out.1 (F := NoF) (by (repeat' (first | (with_reducible first | exact kR0 | apply kP0 | apply kN0 | apply kD0 | apply kA0) | (exact HKW.out) | (right;simp;done)))) (fun _ _ x => x)) 1 rfl (Src.of_has (t := 23) (size := 1) (m := 1) (cs := #[.int .u64 v]) (by (repeat (first | with_reducible exact Has.new_at _ _ _ (by simp) | with_reducible apply Has.drew | with_reducible apply Has.drewN | with_reducible apply Has.alloc | (with_reducible apply Has.past <;> (try omega)) ))) rfl) (by simp [Value.oneCell']) HMA.out HMB.out ?_;intro A1 c9 w9 ho1 hg1 ha1;have hpush := NewSl.pushed HR.out (by (repeat' (first | (with_reducible first | exact kR0 | apply kP0 | apply kN0 | apply kD0 | apply kA0) | (exact HK.out.then HKW.out) | (right;simp;done)))) ho1 hg1 ha1;have HP := hZ0 hpush;clear ho1 hg1 ha1 hpush)
    go_roundw
    case rel => exact ⟨i + 1,A1,c9,by omega,by go_num,by rw [HS1.out,List.length_append];rfl,by rw [HS1.out,List.length_append,u64s_snoc];exact HP.out.1,HS2.out,HP.out.2⟩
    case measure => simp [intOf];omega
  ·obtain rfl : i = ms.length := by omega
   obtain ⟨z2,z3⟩ := HCELL.out wr (HK1.out.then HK.out)
   have HLE2 := hZ0 (NewSl.kept (w' := wr) HR.out (Kept.refl _ _))
   obtain ⟨LL,hLL⟩ : ∃ LL,marksL M ms.length = LL := ⟨_,rfl⟩
   have hag := fun W (hW : Kept NoF w W) => HAG.out W A c1 hW
   simp only [hLL] at hag
   rw [hLL] at HR ⊢
   have HAGG := hZ0 hag
   clear hag hLL HLE2
   go_wp2_with fail
   go_region_held3 (fun W => W.cell? ⟨X.mb,2,none⟩ = some (.pointer (some ⟨X.sb,0,none⟩)) /\ W.cell? ⟨X.mb,3,none⟩ = some (.slice X.pA M.pins.length X.pc))
    (first | with_reducible exact y4 | with_reducible exact y3 | with_reducible exact ⟨z2,z3⟩ | (simp [go_sem,z2,z3];done))
    (first
     | (go_at_call 69;refine (HHOR.out _ (by (repeat' (first | (with_reducible first | exact kR0 | apply kP0 | apply kN0 | apply kD0 | apply kA0) | (exact HK1.out.then HK.out) | (right;simp;done))))).mono ?_;rintro e w3 ⟨rfl,hk3⟩;have hk := Kept.then (F := NoF) (a := wr) (by (repeat' (first | (with_reducible first | exact kR0 | apply kP0 | apply kN0 | apply kD0 | apply kA0) | (right;simp;done)))) hk3;have y3 := HCELL.out _ (HK1.out.then (HK.out.then hk));have HK3 := hZ0 hk;clear hk hk3)
     | (go_at_call 150;refine (HAGG.out _ (by (repeat' (first | (with_reducible first | exact kR0 | apply kP0 | apply kN0 | apply kD0 | apply kA0) | (exact HK1.out.then (HK.out.then HK3.out)) | (right;simp;done)))) (Src.of_own (own_kept HR.out.1 (F := NoF) (by (repeat' (first | (with_reducible first | exact kR0 | apply kP0 | apply kN0 | apply kD0 | apply kA0) | (exact HK3.out) | (right;simp;done)))) (fun _ _ z => z))) (own_cap HR.out.1).1).mono ?_;rintro e w4 ⟨rfl,hk4⟩;have hk := Kept.then (F := NoF) (a := wr) (by (repeat' (first | (with_reducible first | exact kR0 | apply kP0 | apply kN0 | apply kD0 | apply kA0) | (exact HK3.out) | (right;simp;done)))) hk4;have y4 := HCELL.out _ (HK1.out.then (HK.out.then hk));have HK4 := hZ0 hk;clear hk hk4))
   clear y3 z2 z3
   obtain ⟨z2,z3⟩ := y4
   go_wp2_with fail
   refine (HHOR.out _ (by (repeat' (first | (with_reducible first | exact kR0 | apply kP0 | apply kN0 | apply kD0 | apply kA0) | (exact HK1.out.then (HK.out.then HK4.out)) | (right;simp;done))))).mono ?_
   rintro e w5 ⟨rfl,hk5⟩
   have HK5 := hZ0 (Kept.then (F := NoF) (a := w) (by (repeat' (first | (with_reducible first | exact kR0 | apply kP0 | apply kN0 | apply kD0 | apply kA0) | (exact HK1.out.then (HK.out.then HK4.out)) | (right;simp;done)))) hk5);clear hk5 z2 z3
   by_cases hlt : hz < H9
   ·have HU := hZ0 (HUP.out HKN.out hlt)
    have hw := HWR.out w5 HK5.out
    have HW := hZ0 hw;clear hw
    go_wp2_with fail
    refine HW.out.mono ?_
    rintro e w6 ⟨⟨z,rfl⟩,X',hs,hl⟩
    have HQ := hZ0 (show MPost w X M c (.tuple #[]) M9 1 (.returned (.tuple #[])) w6 from by rw [HU.out];exact ⟨rfl,X',hs,hl⟩)
    clear hs hl
    go_wp2
    go_end0
    exact HQ.out
   ·have HQ := hZ0 (HLOW.out HKN.out (by omega) w5 HK5.out)
    go_wp2_with fail
    go_end0
    exact HQ.out
end
end Mas
end Go.Proofs.YtolkgbafebehfaaGreat

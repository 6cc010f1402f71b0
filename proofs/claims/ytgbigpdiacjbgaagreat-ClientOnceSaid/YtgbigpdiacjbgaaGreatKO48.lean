/- Part 49 of what the proof needs. -/
import Derived.Test.YtgbigpdiacjbgaaGreatKO37
import Derived.Test.YtgbigpdiacjbgaaGreatKO46
import Derived.Test.YtgbigpdiacjbgaaGreatKO47
import Derived.Deep.CutBlock
set_option linter.unusedSimpArgs false
set_option linter.unusedVariables false
set_option maxHeartbeats 32000000
set_option maxRecDepth 100000
namespace Go.Proofs.YtgbigpdiacjbgaaGreat
open Go.RowKit
set_option maxRecDepth 100000
namespace Cli
open Plan Ops Ent Msg Vn Go.Proofs.YtgbigpdiacjbgaaGreat.Ask
attribute [local go_sem ↓] storeVar_msg loadVar_msg loadVar_ask
attribute [local go_sem] run_loadAsk
theorem out_cells {w : World} {A : Option Addr} {m : Nat} {l : List OutR} (h : Src w 2 A m (ocells l)) (hm : 0 < m) (i : Nat) (p : OutR) (hp : l[i]? = some p) :
  ∃ ad,A = some ad /\ ad.block < w.heap.size /\ w.cell? (ad.add (i * 2)) = some (.int .i64 p.to) /\ w.cell? ⟨(ad.add (i * 2)).block,(ad.add (i * 2)).off + 1,none⟩ = some (.string p.body) := by
 obtain ⟨ad,rfl,had,hcell⟩ := h.2 hm
 have k0 : (ocells l)[i * 2]? = some (.int .i64 p.to) := by
  unfold ocells
  rw [flat_get ocell 2 (by decide) (fun _ => rfl),show i * 2 / 2 = i by omega,show i * 2 % 2 = 0 by omega,hp];rfl
 have k1 : (ocells l)[i * 2 + 1]? = some (.string p.body) := by
  unfold ocells
  rw [flat_get ocell 2 (by decide) (fun _ => rfl),show (i * 2 + 1) / 2 = i by omega,show (i * 2 + 1) % 2 = 1 by omega,hp];rfl
 refine ⟨ad,rfl,had,hcell _ _ k0,?_⟩
 rw [<- add_lit _ (by omega),add_add];exact hcell _ _ k1
theorem deliv_meet {V4 W w6 : World} {X X6 : CX} {C C6 : CLR} {A : Option Addr} {c : Nat} {L : List OutR} (h : ClAt V4 X C) (hW : Kept NoF V4 W) (hs : CStep W X C w6 X6 C6) (ho : OutNew W w6 A c L) : CStep V4 X C w6 X6 C6 /\ OutNew V4 w6 A c L :=
 ⟨(CStep.refl h hW).trans hs,ho.1,fun k hk => Nat.le_trans hW.size (ho.2 k hk)⟩
theorem start_cases (C : CLR) (a : AskR) : (C.t.isSome = true /\ startS C a = (C,[],20)) \/ (C.t.isSome = false /\ ∃ z,z ≠ 0 /\ startS C a = (C,[],z)) \/ (C.t.isSome = false /\ startS C a = (startC C a,startO C a,0)) := by
 unfold startS
 by_cases ht : C.t.isSome = true
 ·rw [if_pos ht];exact .inl ⟨ht,rfl⟩
 have ht' : C.t.isSome = false := by cases e : C.t.isSome with
  | false => rfl
  | true => exact absurd e ht
 rw [if_neg ht]
 by_cases hz : newE C.id (C.req + 1) a ≠ 0
 ·rw [if_pos hz];exact .inr (.inl ⟨ht',_,hz,rfl⟩)
 ·rw [if_neg hz];exact .inr (.inr ⟨ht',rfl⟩)
theorem add_off (a : Addr) {j : Nat} (hj : j ≠ 0) : a.add j = ⟨a.block,a.off + j,none⟩ := by unfold Addr.add;rw [if_neg hj]
theorem ask_at {w : World} {ad : Addr} {x : ActC} (h : ∀ j u,(acellC x)[j]? = some u -> w.cell? (ad.add j) = some u) : (loadAsk ⟨ad.block,ad.off + 1,none⟩).run Tryz.prog w = .ok (qagg x.a) w := by
 obtain ⟨h1,h2⟩ := askIn_of (w := w) (a := ⟨ad.block,ad.off + 1,none⟩) (cs := qcell x.a) rfl (fun j u hu => by
  have h3 := h (j + 1) u (by
   have h4 : (qcell x.a)[j]? = some u := hu
   have h5 : j < 7 := by
    have := (List.getElem?_eq_some_iff.1 h4).1
    exact this
   show (qcell x.a ++ [.int .i64 x.fr,.string x.body])[j]? = some u
   rw [List.getElem?_append_left (by exact h5)]
   exact h4)
  rw [add_off _ (by omega)] at h3
  have e : (⟨ad.block,ad.off + 1,none⟩ : Addr).add j = ⟨ad.block,ad.off + (j + 1),none⟩ := by
   unfold Addr.add
   by_cases hj : j = 0
   ·subst hj;rw [if_pos rfl]
   ·rw [if_neg hj];simp;omega
  rw [e]
  exact h3)
 rw [run_loadAsk w _ h1,h2]
theorem law_onceC (w : World) (c0 : Int) (h0 : 0 <= c0 /\ c0 <= 255) (A : Option Addr) (c : Nat) (l : List ActC) (hl : Src w 10 A l.length (acellsC l)) (hg : ∀ x ∈ l,AGoodC w x) (hlc : l.length <= c) (hcm : c <= maxLen) :
  Calls Tryz.prog 4 #[.int .u8 c0,.slice A l.length c] w fun e w' => e = .returned (.bool true) /\ Below w.heap.size w w' := by
 have hend : ∀ w',Kept NoF w w' -> Below w.heap.size w w' := fun w' hk => hk.below (Nat.le_refl _) (fun _ z => z.elim)
 have hfew := few_any w A c l hl (fun x hx => ⟨Nat.le_trans (hg x hx).1.2.1 (hg x hx).1.2.2.1,(hg x hx).1.2.2.2.2.2.2.2.2.1,(hg x hx).1.2.2.2.2.2.2.2.2.2,(hg x hx).2.2.2⟩)
 obtain ⟨fv,hfv⟩ : ∃ fv,fewL l = fv := ⟨_,rfl⟩
 rw [hfv] at hfew
 have haw := fun W => awake_c W
 have hid : 0 <= c0 % 3 /\ c0 % 3 < 3 := by omega
 have HEND := hZ0 hend;have HFEW := hZ0 hfew;have HAW := hZ0 haw;have HL := hZ0 hl;have HG := hZ0 hg;have HFV := hZ0 hfv;have HLC := hZ0 (And.intro hlc hcm);have HID := hZ0 hid
 clear hend hfew haw hfv hl hg hlc hcm hid
 go_enter Tryz.func4,Tryz.ntmps4
 go_wp2_with fail
 refine HFEW.out.mono ?_
 rintro e w1 ⟨rfl,hk1⟩
 have HK1 := hZ0 hk1;clear hk1
 cases fv
 ·go_wp2_with fail
  refine (HAW.out _).mono ?_
  rintro e w9 ⟨rfl,hk9⟩
  have HE := hZ0 (HEND.out _ (HK1.out.then hk9));clear hk9
  go_wp2
  go_ret
  exact ⟨rfl,HE.out⟩
 have hrem : c0 - 3 * (c0 / 3) = c0 % 3 := by omega
 have hnew := cnew_any w1 (c0 % 3)
 have HNEW := hZ0 hnew
 clear hnew
 go_wp2_with fail
 refine HNEW.out.mono ?_
 rintro e w2 ⟨-,hp⟩
 obtain ⟨X0,rfl,hc0,hf0,hk2⟩ := hp HID.out
 obtain ⟨cb,hcb⟩ : ∃ cb,X0.cb = cb := ⟨_,rfl⟩
 have hrel0 : CRel w cb w2 X0 (cl0 (c0 % 3)) := ⟨hc0,hcb,CInv.new HID.out,fun k hk => Nat.le_trans HK1.out.size (hf0 k hk),HK1.out.then hk2⟩
 rw [hcb]
 have HR0 := hZ0 hrel0
 clear hp hc0 hf0 hk2 hcb hrel0 HNEW hrem HID
 go_wp2_with fail
 go_loopw [7] (fun v7 wr => ∃ (i : Nat) (X : CX) (C : CLR),i <= 50 /\ i <= l.length /\ v7 = .int .i64 i /\ CRel w cb wr X C) (fun v7 _ => l.length - (intOf v7).toNat)
 case atStart => exact ⟨0,X0,_,by omega,Nat.zero_le _,rfl,HR0.out⟩
 case round =>
  obtain ⟨i,X,C,hi,hi2,rfl,hr⟩ := hrel
  have HR := hZ0 hr;have HI := hZ0 (And.intro hi hi2)
  clear hr HR0
  by_cases hil : i < l.length
  rotate_left
  ·obtain rfl : i = l.length := by omega
   go_wp2_with fail
   refine (HAW.out _).mono ?_
   rintro e w9 ⟨rfl,hk9⟩
   have HE := hZ0 (HEND.out _ (HR.out.k.then hk9));clear hk9
   go_wp2
   go_ret
   exact ⟨rfl,HE.out⟩
  by_cases hi5 : i < 50
  rotate_left
  ·obtain rfl : i = 50 := by omega
   go_wp2_with fail
   refine (HAW.out _).mono ?_
   rintro e w9 ⟨rfl,hk9⟩
   have HE := hZ0 (HEND.out _ (HR.out.k.then hk9));clear hk9
   go_wp2
   go_ret
   exact ⟨rfl,HE.out⟩
  have h50 : (i : Int) < 50 := by omega
  obtain ⟨x,hx⟩ : ∃ x,l[i]? = some x := ⟨_,List.getElem?_eq_getElem hil⟩
  have hxg := HG.out x (List.mem_of_getElem? hx)
  have hxf := fewC_get (fewL_get HFV.out (by omega) hx)
  have hrp := reply_any HR.out.at' HR.out.inv.r
  unfold ReplyPost at hrp
  rw [HR.out.cb] at hrp
  obtain ⟨rp,hrpv⟩ : ∃ rp,repC C = rp := ⟨_,rfl⟩
  rw [hrpv] at hrp
  obtain ⟨q1,q2,q3,q4,qs⟩ := rp
  unfold ragg rcell at hrp
  dsimp only at hrp
  obtain ⟨nq,hnq⟩ : ∃ nq,qs.length = nq := ⟨_,rfl⟩
  rw [hnq] at hrp
  have HRP := hZ0 hrp;have HX := hZ0 hx;have HXG := hZ0 (And.intro hxg hxf);have HRV := hZ0 (And.intro hrpv hnq)
  clear hrp hx hxg hxf hrpv hnq
  go_wp2_with fail
  refine HRP.out.mono ?_
  rintro e w3 ⟨A3,c3,rfl,hrow3,hk3⟩
  obtain ⟨W4,hW4⟩ : ∃ W4,w3.alloc (.cells #[.int .i64 0,.int .i64 0,.int .u64 0,.int .i64 0,.slice none 0 0] 36) = W4 := ⟨_,rfl⟩
  obtain ⟨b8,hb8⟩ : ∃ b8,w3.heap.size = b8 := ⟨_,rfl⟩
  have hka : Kept NoF w3 W4 := by rw [<- hW4];(repeat' (first | (with_reducible first | exact kR0 | apply kP0 | apply kN0 | apply kD0 | apply kA0) | (right;simp;done)))
  have hna : Has W4 b8 36 #[.int .i64 0,.int .i64 0,.int .u64 0,.int .i64 0,.slice none 0 0] := by rw [<- hW4,<- hb8];exact Has.new _ _ _
  have s0 := hna.cell 0;have s1 := hna.cell 1;have s2 := hna.cell 2;have s3 := hna.cell 3;have s4 := hna.cell 4
  have sf0 := hna.frozen 0;have sf1 := hna.frozen 1;have sf2 := hna.frozen 2;have sf3 := hna.frozen 3;have sf4 := hna.frozen 4
  simp at s0 s1 s2 s3 s4
  obtain ⟨V4,hV4⟩ : ∃ V4,(((((W4.setCell ⟨b8,0,none⟩ (.int .i64 q1)).setCell ⟨b8,1,none⟩ (.int .i64 q2)).setCell ⟨b8,2,none⟩ (.int .u64 q3)).setCell ⟨b8,3,none⟩ (.int .i64 q4)).setCell ⟨b8,4,none⟩ (.slice A3 nq c3)) = V4 := ⟨_,rfl⟩
  have hb4 : Has V4 b8 36 #[.int .i64 q1,.int .i64 q2,.int .u64 q3,.int .i64 q4,.slice A3 nq c3] := by
   rw [<- hV4];exact Has.put_of (Has.put_of (Has.put_of (Has.put_of (Has.put_of hna rfl) rfl) rfl) rfl) rfl
  have hkb : Kept NoF w3 V4 := by
   have h9 : w3.heap.size <= b8 := by omega
   rw [<- hV4];(repeat' (first | (with_reducible first | exact kR0 | apply kP0 | apply kN0 | apply kD0 | apply kA0) | (first | exact hka | (right;exact h9)) | (right;simp;done)))
  have hr4 := HR.out.quiet (hk3.then hkb)
  have hrow4 := hrow3.kept hkb
  have h8w : w.heap.size <= b8 := by have := HR.out.k.size;have := hk3.size;omega
  have h8c : (∀ k,cfoot X C k -> k < b8) /\ ∀ k,cfoot X C k -> k < wr.heap.size := ⟨fun k hk => by have := (HR.out.at').lt hk;have := hk3.size;omega,fun k hk => (HR.out.at').lt hk⟩
  have hbz := busy_any hr4.at'
  have hrq := req_any hr4.at'
  rw [HR.out.cb] at hbz hrq
  obtain ⟨bz,hbzv⟩ : ∃ bz,C.t.isSome = bz := ⟨_,rfl⟩
  obtain ⟨rn,hrnv⟩ : ∃ rn,C.req = rn := ⟨_,rfl⟩
  obtain ⟨hd,hhd⟩ : ∃ hd,C.has = hd := ⟨_,rfl⟩
  rw [hbzv] at hbz
  rw [hrnv] at hrq
  rw [hhd]
  have hsl4 := HL.out.kept hr4.k (fun _ _ z => z)
  obtain ⟨ad,had,hadl,hcl⟩ := act_cellsC hsl4 (by omega) i x HX.out
  subst had
  have k0 : V4.cell? (ad.add (i * 10)) = some (.int .i64 x.k) := by have := hcl 0 _ rfl;rwa [Addr.add_zero'] at this
  have HBZ := hZ0 hbz;have HRQ := hZ0 hrq;have HR4 := hZ0 hr4;have HB4 := hZ0 hb4;have HROW4 := hZ0 hrow4;have HCV := hZ0 (And.intro hbzv (And.intro hrnv hhd));have H8 := hZ0 (And.intro h8w h8c);have HCL := hZ0 hcl
  clear hk3 hka hna hkb hr4 hrow4 hrow3 hbz hrq hb4 hbzv hrnv hhd h8w h8c HR HRP hsl4 hcl
  go_wp2_with fail
  clear hW4 hb8 s0 s1 s2 s3 s4 sf0 sf1 sf2 sf3 sf4 hV4
  refine HBZ.out.mono ?_
  rintro e w5 ⟨rfl,rfl⟩
  go_wp2_with fail
  refine HRQ.out.mono ?_
  rintro e w5 ⟨rfl,rfl⟩
  go_upto_block 2 with fail
  clear k0
  go_cut [12] from 35 to 189 (fun v12 wx => ∃ (X' : CX) (C' : CLR) (A' : Option Addr) (c' : Nat) (L : List OutR),v12 = .slice A' (List.length L) c' /\ CRel w cb wx X' C' /\ Once C C' /\ OutsOk L /\ NewSl 54 2 w.heap.size wx A' (List.length L) c' (ocells L) /\ Kept (cfoot X C) V4 wx)
  case first =>
   have HMEET := hZ0 (show ∀ wx X' C' A' c' L,CStep V4 X C wx X' C' -> CInv C' -> Once C C' -> OutsOk L -> OutNew V4 wx A' c' L -> CRel w cb wx X' C' /\ Once C C' /\ OutsOk L /\ NewSl 54 2 w.heap.size wx A' (List.length L) c' (ocells L) /\ Kept (cfoot X C) V4 wx from fun wx X' C' A' c' L h1 h2 h3 h4 h5 => ⟨HR4.out.step h1 h2,h3,h4,⟨h5.1,fun k hk => by have h8 := h5.2 k hk;have h9 := HR4.out.k.size;omega⟩,h1.k⟩)
   by_cases hk0 : x.k = 0
   ·have e0 : (x.k == 0) = true := by simpa using hk0
    have hst := start_any HR4.out.at' HR4.out.inv x.a (HXG.out.1.1.kept HR4.out.k) (by have := HXG.out.2.1;omega)
    have hin := HR4.out.inv.start (a := x.a) HXG.out.1.1.2.2.2.2.2.2.1 HXG.out.1.1.2.2.2.2.2.2.2.1
    have hsc := start_cases C x.a
    have hrn : 0 <= rn /\ rn <= 1073741824 := by have := HR4.out.inv.req;rw [HCV.out.2.1] at this;exact this
    obtain ⟨hr1,hr2⟩ := hrn
    have la := ask_at HCL.out
    rw [HR4.out.cb] at hst
    unfold StartAny at hst
    obtain ⟨cs,hcs⟩ : ∃ cs,(qcell x.a).toArray = cs := ⟨_,rfl⟩
    unfold qagg at hst la
    rw [hcs] at hst la
    rw [HCV.out.1] at hsc
    have HST := hZ0 hst;have HIN := hZ0 hin
    clear hk0 hst hin hcs
    rcases hsc with ⟨rfl,hs⟩ | ⟨rfl,z,hz,hs⟩ | ⟨rfl,hs⟩
    ·rw [hs] at HST HIN
     dsimp only [List.length_nil] at HST HIN
     have e1 : (rn == rn + 1) = false := by simp;omega
     clear hs
     go_wp2_with fail
     clear la
     refine HST.out.mono ?_
     rintro e w6 ⟨X6,A6,c6,rfl,hs6,ho6⟩
     have hrq6 := req_any hs6.at'
     rw [hs6.cb,HR4.out.cb,HCV.out.2.1] at hrq6
     have HRQ6 := hZ0 hrq6;have HM := hZ0 (HMEET.out _ _ _ _ _ _ hs6 HIN.out.1 HIN.out.2.1 HIN.out.2.2 ho6)
     clear hs6 ho6 hrq6
     go_wp2_with fail
     refine HRQ6.out.mono ?_
     rintro e w7 ⟨rfl,rfl⟩
     go_wp2_with fail
     go_meet
     case rel => exact ⟨X6,_,A6,c6,_,rfl,HM.out⟩
    ·rw [hs] at HST HIN
     dsimp only [List.length_nil] at HST HIN
     have e1 : (rn == rn + 1) = false := by simp;omega
     have e2 : (z == 0) = false := by simpa using hz
     clear hs hz
     go_wp2_with fail
     clear la
     refine HST.out.mono ?_
     rintro e w6 ⟨X6,A6,c6,rfl,hs6,ho6⟩
     have hrq6 := req_any hs6.at'
     rw [hs6.cb,HR4.out.cb,HCV.out.2.1] at hrq6
     have HRQ6 := hZ0 hrq6;have HM := hZ0 (HMEET.out _ _ _ _ _ _ hs6 HIN.out.1 HIN.out.2.1 HIN.out.2.2 ho6)
     clear hs6 ho6 hrq6
     go_wp2_with fail
     refine HRQ6.out.mono ?_
     rintro e w7 ⟨rfl,rfl⟩
     go_wp2_with fail
     go_meet
     case rel => exact ⟨X6,_,A6,c6,_,rfl,HM.out⟩
    ·rw [hs] at HST HIN
     dsimp only at HST HIN
     obtain ⟨L,hL⟩ : ∃ L,startO C x.a = L := ⟨_,rfl⟩
     rw [hL] at HST HIN
     obtain ⟨nl,hnl⟩ : ∃ nl,L.length = nl := ⟨_,rfl⟩
     rw [hnl] at HST
     have e1 : (rn + 1 == rn + 1) = true := by simp
     have HNL := hZ0 hnl
     clear hs hL hnl
     go_wp2_with fail
     clear la
     refine HST.out.mono ?_
     rintro e w6 ⟨X6,A6,c6,rfl,hs6,ho6⟩
     have hrq6 := req_any hs6.at'
     have hbz6 := busy_any hs6.at'
     have hq6 : (startC C x.a).req = rn + 1 := by rw [<- HCV.out.2.1];rfl
     have hz6 : (startC C x.a).t.isSome = true := rfl
     rw [hs6.cb,HR4.out.cb,hq6] at hrq6
     rw [hs6.cb,HR4.out.cb,hz6] at hbz6
     have HRQ6 := hZ0 hrq6;have HBZ6 := hZ0 hbz6;have HM := hZ0 (HMEET.out _ _ _ _ _ _ hs6 HIN.out.1 HIN.out.2.1 HIN.out.2.2 ho6)
     clear hs6 ho6 hrq6 hbz6 hq6 hz6
     go_wp2_with fail
     refine HRQ6.out.mono ?_
     rintro e w7 ⟨rfl,rfl⟩
     go_wp2_with fail
     refine HBZ6.out.mono ?_
     rintro e w7 ⟨rfl,rfl⟩
     go_wp2_with fail
     go_meet
     case rel => exact ⟨X6,_,A6,c6,L,by rw [HNL.out],HM.out⟩
   have e0 : (x.k == 0) = false := by simpa using hk0
   by_cases hk1 : x.k = 1
   ·have e1 : (x.k == 1) = true := by simpa using hk1
    have htk := tick_any HR4.out.at' HR4.out.inv
    have hin := HR4.out.inv.tick
    rw [HR4.out.cb] at htk
    unfold SendPost at htk
    obtain ⟨q,hq⟩ : ∃ q,tickC C = q := ⟨_,rfl⟩
    rw [hq] at htk hin
    obtain ⟨C6,L⟩ := q
    dsimp only at htk hin
    obtain ⟨nl,hnl⟩ : ∃ nl,L.length = nl := ⟨_,rfl⟩
    rw [hnl] at htk
    have HTK := hZ0 htk;have HIN := hZ0 hin;have HNL := hZ0 hnl
    clear htk hin hq hnl hk0 hk1
    go_wp2_with fail
    refine HTK.out.mono ?_
    rintro e w6 ⟨X6,A6,c6,rfl,hs6,ho6⟩
    have HM := hZ0 (HMEET.out _ _ _ _ _ _ hs6 HIN.out.1 HIN.out.2.1 HIN.out.2.2 ho6)
    clear hs6 ho6
    go_wp2_with fail
    go_meet
    case rel => exact ⟨X6,_,A6,c6,L,by rw [HNL.out],HM.out⟩
   ·have e1 : (x.k == 1) = false := by simpa using hk1
    have hdl := fun W (hW : Kept NoF V4 W) => deliv_any (HR4.out.quiet hW).at' HR4.out.inv x.fr x.body HXG.out.1.2.2.2
    have hin := HR4.out.inv.deliv x.fr x.body (ofM_at _)
    rw [HR4.out.cb] at hdl
    unfold SendPost at hdl
    obtain ⟨q,hq⟩ : ∃ q,delivC C x.fr x.body = q := ⟨_,rfl⟩
    rw [hq] at hin
    simp only [hq] at hdl
    obtain ⟨C6,L⟩ := q
    dsimp only at hdl hin
    obtain ⟨nl,hnl⟩ : ∃ nl,L.length = nl := ⟨_,rfl⟩
    simp only [hnl] at hdl
    have hS : ∀ W,Kept (cfoot X C) V4 W -> W.cell? ⟨(ad.add (i * 10)).block,(ad.add (i * 10)).off + 8,none⟩ = some (.int .i64 x.fr) /\ W.cell? ⟨(ad.add (i * 10)).block,(ad.add (i * 10)).off + 9,none⟩ = some (.string x.body) := fun W hW => by
     have h1 := act_cellsC (HL.out.kept (HR4.out.k.trans hW (fun k hk => .inr (HR4.out.fr k hk))) (fun _ _ z => z)) (by omega) i x HX.out
     obtain ⟨ad',e',_,h2⟩ := h1
     injection e' with e'
     subst e'
     exact ⟨by have h3 := h2 8 _ rfl;rwa [add_off _ (by decide)] at h3,by have h3 := h2 9 _ rfl;rwa [add_off _ (by decide)] at h3⟩
    have HDL := hZ0 hdl;have HIN := hZ0 hin;have HNL := hZ0 hnl;have HS := hZ0 hS
    have y0 := hS V4 (Kept.refl _ _)
    clear hdl hin hq hnl hk0 hk1 hS
    go_wp2_with fail
    go_region_held3 (fun W => W.cell? ⟨(ad.add (i * 10)).block,(ad.add (i * 10)).off + 8,none⟩ = some (.int .i64 x.fr) /\ W.cell? ⟨(ad.add (i * 10)).block,(ad.add (i * 10)).off + 9,none⟩ = some (.string x.body)) (first | with_reducible exact y9 | with_reducible exact y0 | (refine HS.out _ (Kept.up' ?_);(repeat' (first | (with_reducible first | exact kR0 | apply kP0 | apply kN0 | apply kD0 | apply kA0) | (right;simp;done)));done))
     (first | (go_at_call 11;refine (HDL.out _ (by (repeat' (first | (with_reducible first | exact kR0 | apply kP0 | apply kN0 | apply kD0 | apply kA0) | (right;simp;done))))).mono ?_;rintro e w6 ⟨X6,A6,c6,rfl,hs6,ho6⟩;have a9 := deliv_meet HR4.out.at' (by (repeat' (first | (with_reducible first | exact kR0 | apply kP0 | apply kN0 | apply kD0 | apply kA0) | (right;simp;done)))) hs6 ho6;have y9 := HS.out w6 a9.1.k;have HM := hZ0 (HMEET.out _ _ _ _ _ _ a9.1 HIN.out.1 HIN.out.2.1 HIN.out.2.2 a9.2);clear hs6 ho6 a9))
    all_goals
     go_wp2_with fail
     go_meet
     case rel => exact ⟨X6,_,A6,c6,L,by rw [HNL.out],HM.out⟩
  case rest =>
   obtain ⟨w6,hw6⟩ : ∃ w6,wc = w6 := ⟨_,rfl⟩
   subst hw6
   obtain ⟨X',C',A',c',L,rfl,hr',hon,hok,hrow',hk'⟩ := hcut
   have hrp := reply_any hr'.at' hr'.inv.r
   unfold ReplyPost at hrp
   rw [hr'.cb] at hrp
   obtain ⟨rp,hrpv⟩ : ∃ rp,repC C' = rp := ⟨_,rfl⟩
   obtain ⟨hd',hhd'⟩ : ∃ hd',C'.has = hd' := ⟨_,rfl⟩
   obtain ⟨bz',hbz'⟩ : ∃ bz',C'.t.isSome = bz' := ⟨_,rfl⟩
   rw [hrpv,hhd'] at hrp
   obtain ⟨p1,p2,p3,p4,ps⟩ := rp
   unfold ragg rcell at hrp
   dsimp only at hrp
   obtain ⟨np,hnp⟩ : ∃ np,ps.length = np := ⟨_,rfl⟩
   rw [hnp] at hrp
   obtain ⟨nl,hnl⟩ : ∃ nl,L.length = nl := ⟨_,rfl⟩
   rw [hnl]
   have hcc := own_cap hrow'.1
   -- the reply ahead of it,still there
   have hb8 := HB4.out.kept hk' (fun hf => by have := H8.out.2.1 _ hf;omega)
   have hq8 : Src wc 2 A3 nq (pcells qs) := Src.of_own (own_kept HROW4.out.1 hk' (fun k hk hf => by have h1 := HROW4.out.2 k hk;have h2 := H8.out.2.2 k hf;omega))
   have HB6 := hZ0 hb8;have HQ6 := hZ0 hq8
   -- how it stands
   have hcase : (bz = true /\ bz' = false /\ hd' = true /\ p1 = rn /\ (hd = true -> q1 < p1)) \/ ((bz = true -> bz' = true) /\ hd' = hd /\ (⟨p1,p2,p3,p4,ps⟩ : RepR) = ⟨q1,q2,q3,q4,qs⟩) := by
    by_cases hb : bz = true /\ bz' = false
    ·obtain ⟨hb1,hb2⟩ := hb
     have hn : C'.t = none := by rw [hb2] at hbz';cases e : C'.t with
      | none => rfl
      | some t => rw [e] at hbz';cases hbz'
     obtain ⟨d1,d2⟩ := hon.done (HCV.out.1.trans hb1) hn
     have e1 : repC C' = C'.r := by unfold repC;rw [if_pos d1]
     rw [e1] at hrpv
     have e2 : p1 = C.req := by rw [<- d2,hrpv]
     refine .inl ⟨hb1,hb2,hhd'.symm.trans d1,e2.trans HCV.out.2.1,fun hh => ?_⟩
     have hch : C.has = true := HCV.out.2.2.trans hh
     have e3 : repC C = C.r := by unfold repC;rw [if_pos hch]
     have e4 := HRV.out.1
     rw [e3] at e4
     have e5 := (HR4.out.inv.has hch).2 (HCV.out.1.trans hb1)
     rw [e4] at e5
     rw [e2]
     exact e5
    ·have hs : C.t.isSome = true -> C'.t.isSome = true := fun h => by
      have h1 := HCV.out.1.symm.trans h
      cases e : bz' with
      | true => exact hbz'.trans e
      | false => exact absurd ⟨h1,e⟩ hb
     obtain ⟨d1,d2⟩ := hon.same hs
     have e1 : repC C' = repC C := by unfold repC;rw [d1,d2]
     rw [e1,HRV.out.1] at hrpv
     refine .inr ⟨fun h => ?_,hhd'.symm.trans (d1.trans HCV.out.2.2),hrpv.symm⟩
     cases e : bz' with
     | true => rfl
     | false => exact absurd ⟨h,e⟩ hb
   have hpl : ps.length <= 1000 := by
    have h9 : (repC C').ps.length <= 1000 := by unfold repC;split;exact hr'.inv.r;exact Nat.zero_le _
    rw [hrpv] at h9
    exact h9
   have HRP := hZ0 hrp;have HR6 := hZ0 hr';have HOK := hZ0 hok;have HROW6 := hZ0 hrow';have HCASE := hZ0 hcase;have HPV := hZ0 (And.intro hrpv (And.intro hnp hpl));have HNL := hZ0 (And.intro hnl hcc);have HBZ' := hZ0 hbz'
   clear hrp hr' hon hok hrow' hk' hcase hrpv hhd' hnp hpl hnl hcc hb8 hq8 hbz' HB4 HROW4 HBZ HRQ HCL
   go_wp2_with fail
   refine HRP.out.mono ?_
   rintro e w7 ⟨A7,c7,rfl,hrow7,hk7⟩
   obtain ⟨W8,hW8⟩ : ∃ W8,w7.alloc (.cells #[.int .i64 0,.int .i64 0,.int .u64 0,.int .i64 0,.slice none 0 0] 36) = W8 := ⟨_,rfl⟩
   obtain ⟨b13,hb13⟩ : ∃ b13,w7.heap.size = b13 := ⟨_,rfl⟩
   have hka : Kept NoF w7 W8 := by rw [<- hW8];(repeat' (first | (with_reducible first | exact kR0 | apply kP0 | apply kN0 | apply kD0 | apply kA0) | (right;simp;done)))
   have hna : Has W8 b13 36 #[.int .i64 0,.int .i64 0,.int .u64 0,.int .i64 0,.slice none 0 0] := by rw [<- hW8,<- hb13];exact Has.new _ _ _
   have s0 := hna.cell 0;have s1 := hna.cell 1;have s2 := hna.cell 2;have s3 := hna.cell 3;have s4 := hna.cell 4
   have sf0 := hna.frozen 0;have sf1 := hna.frozen 1;have sf2 := hna.frozen 2;have sf3 := hna.frozen 3;have sf4 := hna.frozen 4
   simp at s0 s1 s2 s3 s4
   obtain ⟨V8,hV8⟩ : ∃ V8,(((((W8.setCell ⟨b13,0,none⟩ (.int .i64 p1)).setCell ⟨b13,1,none⟩ (.int .i64 p2)).setCell ⟨b13,2,none⟩ (.int .u64 p3)).setCell ⟨b13,3,none⟩ (.int .i64 p4)).setCell ⟨b13,4,none⟩ (.slice A7 np c7)) = V8 := ⟨_,rfl⟩
   have hb8 : Has V8 b13 36 #[.int .i64 p1,.int .i64 p2,.int .u64 p3,.int .i64 p4,.slice A7 np c7] := by
    rw [<- hV8];exact Has.put_of (Has.put_of (Has.put_of (Has.put_of (Has.put_of hna rfl) rfl) rfl) rfl) rfl
   have hkb : Kept NoF w7 V8 := by
    have h9 : w7.heap.size <= b13 := by omega
    rw [<- hV8];(repeat' (first | (with_reducible first | exact kR0 | apply kP0 | apply kN0 | apply kD0 | apply kA0) | (first | exact hka | (right;exact h9)) | (right;simp;done)))
   have hk8 := hk7.then hkb
   have hr8 := HR6.out.quiet hk8
   have hp8 := (hrow7.kept hkb)
   have hq8 := HQ6.out.kept hk8 (fun _ _ z => z)
   have hw8 := HB6.out.kept hk8 (fun z => z)
   have ho8 := HROW6.out.kept hk8
   have hbz := busy_any hr8.at'
   rw [hr8.cb,HBZ'.out] at hbz
   have t0 := hb8.cell 0;have t1 := hb8.cell 1;have t2 := hb8.cell 2;have t3 := hb8.cell 3;have t4 := hb8.cell 4
   have u0 := hw8.cell 0;have u1 := hw8.cell 1;have u2 := hw8.cell 2;have u3 := hw8.cell 3;have u4 := hw8.cell 4
   simp at t0 t1 t2 t3 t4 u0 u1 u2 u3 u4
   have HBZ8 := hZ0 hbz;have HR8 := hZ0 hr8;have HP8 := hZ0 hp8;have HQ8 := hZ0 hq8;have HO8 := hZ0 ho8
   clear hbz hr8 hp8 hq8 hw8 ho8 hk8 hkb hb8 hka hna hk7 hrow7 HR6 HQ6 HB6 HROW6 HRP HBZ'
   rcases HCASE.out with ⟨rfl,rfl,rfl,rfl,hlt⟩ | ⟨hbb,rfl,hrr⟩
   ·have e1 : (p1 == p1) = true := by simp
    have e2 : (p1 != p1) = false := by simp
    cases hd
    ·clear hlt
     go_wp2_with fail
     clear hW8 hb13 s0 s1 s2 s3 s4 sf0 sf1 sf2 sf3 sf4 hV8
     refine HBZ8.out.mono ?_
     rintro e w9 ⟨rfl,rfl⟩
     go_wp2_with fail
     have hnb : nl <= 9223372036854775807 := by have h1 := HNL.out.1;have h2 := HNL.out.2.1;have h3 := HNL.out.2.2;unfold maxLen at h3;omega
     go_loopw [15] (fun v15 wq => ∃ j : Nat,j <= nl /\ v15 = .int .i64 j /\ CRel w cb wq X' C' /\ NewSl 54 2 w.heap.size wq A' L.length c' (ocells L)) (fun v15 _ => nl - (intOf v15).toNat)
     case atStart => exact ⟨0,Nat.zero_le _,rfl,HR8.out.quiet (by (repeat' (first | (with_reducible first | exact kR0 | apply kP0 | apply kN0 | apply kD0 | apply kA0) | (right;simp;done)))),HO8.out.kept (by (repeat' (first | (with_reducible first | exact kR0 | apply kP0 | apply kN0 | apply kD0 | apply kA0) | (right;simp;done))))⟩
     case round =>
      obtain ⟨j,hj,rfl,hrj,hoj⟩ := hrel
      have HRJ := hZ0 hrj;have HOJ := hZ0 hoj
      clear hrj hoj HR8 HO8
      have hnl1 := HNL.out.1
      by_cases hjl : j < nl
      ·obtain ⟨o,ho⟩ : ∃ o,L[j]? = some o := ⟨_,List.getElem?_eq_getElem (by omega)⟩
       obtain ⟨h1,h2,so,hbody,hof,hsz⟩ := HOK.out o (List.mem_of_getElem? ho)
       obtain ⟨ad2,had2,hadl2,e0,eb⟩ := out_cells (Src.of_own HOJ.out.1) (by omega) j o ho
       subst had2
       rw [hbody] at eb
       have hbs := mB_size so
       have hmt := mB_tail so
       obtain ⟨bd,hbd⟩ : ∃ bd,mB so = bd := ⟨_,rfl⟩
       rw [hbd] at eb hbs hmt
       obtain ⟨tt,hto⟩ : ∃ tt,o.to = tt := ⟨_,rfl⟩
       rw [hto] at e0 h1 h2
       have g0 : ((bd.size : Int) == 0) = false := beq_false_of_ne (by omega)
       have g1 : ¬ tt < 0 := by omega
       have g2 : ¬ 4 < tt := by omega
       have hpos : 0 < bd.size := by omega
       have hoc := fun W => Rm.rof9_any W (bd.extract 1 bd.size) (by rw [hmt];unfold maxLen;omega)
       unfold Mof.OfPost at hoc
       have hof0 : (Mof.ofM (bd.extract 1 bd.size)).2 = 0 := by rw [hmt];exact hof
       simp only [hof0] at hoc
       have HOC := hZ0 hoc
       clear hoc hof0 hof hbs hmt hbd hbody hsz ho h1 h2 hto hnl1
       go_wp2_with fail
       refine (HOC.out _).mono ?_
       rintro e w11 ⟨x9,rfl,-,-,hk11⟩
       obtain ⟨Wz,W12,hWz,hst,hb12,hk12⟩ := lay_msg w11 x9
       have HR12 := hZ0 (HRJ.out.quiet (hk11.then hk12));have HO12 := hZ0 (HOJ.out.kept (hk11.then hk12))
       unfold xagg
       obtain ⟨cs9,hcs9⟩ : ∃ cs9,(xcell x9).toArray = cs9 := ⟨_,rfl⟩
       rw [hcs9] at hst ⊢
       clear hk11 hk12 hb12 hcs9 e0 eb g0 g1 g2 hpos
       go_wp2
       go_roundw
       case rel => exact ⟨j + 1,by omega,by go_num,HR12.out,HO12.out⟩
       case measure => simp [intOf];omega
      ·obtain rfl : j = nl := by omega
       have hi5' := HI.out
       go_wp2
       go_roundw
       case rel => exact ⟨i + 1,X',C',by omega,by omega,by go_num,HRJ.out⟩
       case measure => simp [intOf];omega
    ·have hlt2 := hlt rfl
     have e3 : ¬ p1 <= q1 := by omega
     clear hlt
     go_wp2_with fail
     clear hW8 hb13 s0 s1 s2 s3 s4 sf0 sf1 sf2 sf3 sf4 hV8
     refine HBZ8.out.mono ?_
     rintro e w9 ⟨rfl,rfl⟩
     go_wp2_with fail
     have hnb : nl <= 9223372036854775807 := by have h1 := HNL.out.1;have h2 := HNL.out.2.1;have h3 := HNL.out.2.2;unfold maxLen at h3;omega
     go_loopw [15] (fun v15 wq => ∃ j : Nat,j <= nl /\ v15 = .int .i64 j /\ CRel w cb wq X' C' /\ NewSl 54 2 w.heap.size wq A' L.length c' (ocells L)) (fun v15 _ => nl - (intOf v15).toNat)
     case atStart => exact ⟨0,Nat.zero_le _,rfl,HR8.out.quiet (by (repeat' (first | (with_reducible first | exact kR0 | apply kP0 | apply kN0 | apply kD0 | apply kA0) | (right;simp;done)))),HO8.out.kept (by (repeat' (first | (with_reducible first | exact kR0 | apply kP0 | apply kN0 | apply kD0 | apply kA0) | (right;simp;done))))⟩
     case round =>
      obtain ⟨j,hj,rfl,hrj,hoj⟩ := hrel
      have HRJ := hZ0 hrj;have HOJ := hZ0 hoj
      clear hrj hoj HR8 HO8
      have hnl1 := HNL.out.1
      by_cases hjl : j < nl
      ·obtain ⟨o,ho⟩ : ∃ o,L[j]? = some o := ⟨_,List.getElem?_eq_getElem (by omega)⟩
       obtain ⟨h1,h2,so,hbody,hof,hsz⟩ := HOK.out o (List.mem_of_getElem? ho)
       obtain ⟨ad2,had2,hadl2,e0,eb⟩ := out_cells (Src.of_own HOJ.out.1) (by omega) j o ho
       subst had2
       rw [hbody] at eb
       have hbs := mB_size so
       have hmt := mB_tail so
       obtain ⟨bd,hbd⟩ : ∃ bd,mB so = bd := ⟨_,rfl⟩
       rw [hbd] at eb hbs hmt
       obtain ⟨tt,hto⟩ : ∃ tt,o.to = tt := ⟨_,rfl⟩
       rw [hto] at e0 h1 h2
       have g0 : ((bd.size : Int) == 0) = false := beq_false_of_ne (by omega)
       have g1 : ¬ tt < 0 := by omega
       have g2 : ¬ 4 < tt := by omega
       have hpos : 0 < bd.size := by omega
       have hoc := fun W => Rm.rof9_any W (bd.extract 1 bd.size) (by rw [hmt];unfold maxLen;omega)
       unfold Mof.OfPost at hoc
       have hof0 : (Mof.ofM (bd.extract 1 bd.size)).2 = 0 := by rw [hmt];exact hof
       simp only [hof0] at hoc
       have HOC := hZ0 hoc
       clear hoc hof0 hof hbs hmt hbd hbody hsz ho h1 h2 hto hnl1
       go_wp2_with fail
       refine (HOC.out _).mono ?_
       rintro e w11 ⟨x9,rfl,-,-,hk11⟩
       obtain ⟨Wz,W12,hWz,hst,hb12,hk12⟩ := lay_msg w11 x9
       have HR12 := hZ0 (HRJ.out.quiet (hk11.then hk12));have HO12 := hZ0 (HOJ.out.kept (hk11.then hk12))
       unfold xagg
       obtain ⟨cs9,hcs9⟩ : ∃ cs9,(xcell x9).toArray = cs9 := ⟨_,rfl⟩
       rw [hcs9] at hst ⊢
       clear hk11 hk12 hb12 hcs9 e0 eb g0 g1 g2 hpos
       go_wp2
       go_roundw
       case rel => exact ⟨j + 1,by omega,by go_num,HR12.out,HO12.out⟩
       case measure => simp [intOf];omega
      ·obtain rfl : j = nl := by omega
       have hi5' := HI.out
       go_wp2
       go_roundw
       case rel => exact ⟨i + 1,X',C',by omega,by omega,by go_num,HRJ.out⟩
       case measure => simp [intOf];omega
   ·have hsm : ∀ W,Kept NoF V8 W -> Calls Tryz.prog 16 #[.agg #[.int .i64 p1,.int .i64 p2,.int .u64 p3,.int .i64 p4,.slice A7 np c7],.agg #[.int .i64 q1,.int .i64 q2,.int .u64 q3,.int .i64 q4,.slice A3 nq c3]] W fun e w' => e = .returned (.bool true) /\ Kept NoF W w' := fun W hW => by
     injection hrr with g1 g2 g3 g4 g5
     subst g1 g2 g3 g4 g5
     have hnn : np = nq := HPV.out.2.1.symm.trans HRV.out.2
     have h9 := same_reply W ⟨p1,p2,p3,p4,ps⟩ A7 A3 c7 c3 (by dsimp only;rw [HPV.out.2.1];exact Src.of_own (HP8.out.kept hW).1) (by dsimp only;rw [HPV.out.2.1,hnn];exact HQ8.out.kept hW (fun _ _ z => z)) HPV.out.2.2
     unfold ragg rcell at h9
     dsimp only at h9
     rw [HPV.out.2.1] at h9
     rw [<- hnn]
     exact h9
    have HSM := hZ0 (hsm V8 (Kept.refl _ _))
    clear hsm hrr
    cases bz
    ·clear hbb
     go_wp2_with fail
     clear hW8 hb13 s0 s1 s2 s3 s4 sf0 sf1 sf2 sf3 sf4 hV8
     refine HSM.out.mono ?_
     rintro e w9 ⟨rfl,hk9⟩
     have HK9 := hZ0 hk9;clear hk9
     go_wp2_with fail
     have hnb : nl <= 9223372036854775807 := by have h1 := HNL.out.1;have h2 := HNL.out.2.1;have h3 := HNL.out.2.2;unfold maxLen at h3;omega
     go_loopw [15] (fun v15 wq => ∃ j : Nat,j <= nl /\ v15 = .int .i64 j /\ CRel w cb wq X' C' /\ NewSl 54 2 w.heap.size wq A' L.length c' (ocells L)) (fun v15 _ => nl - (intOf v15).toNat)
     case atStart => exact ⟨0,Nat.zero_le _,rfl,HR8.out.quiet HK9.out,HO8.out.kept HK9.out⟩
     case round =>
      obtain ⟨j,hj,rfl,hrj,hoj⟩ := hrel
      have HRJ := hZ0 hrj;have HOJ := hZ0 hoj
      clear hrj hoj HR8 HO8
      have hnl1 := HNL.out.1
      by_cases hjl : j < nl
      ·obtain ⟨o,ho⟩ : ∃ o,L[j]? = some o := ⟨_,List.getElem?_eq_getElem (by omega)⟩
       obtain ⟨h1,h2,so,hbody,hof,hsz⟩ := HOK.out o (List.mem_of_getElem? ho)
       obtain ⟨ad2,had2,hadl2,e0,eb⟩ := out_cells (Src.of_own HOJ.out.1) (by omega) j o ho
       subst had2
       rw [hbody] at eb
       have hbs := mB_size so
       have hmt := mB_tail so
       obtain ⟨bd,hbd⟩ : ∃ bd,mB so = bd := ⟨_,rfl⟩
       rw [hbd] at eb hbs hmt
       obtain ⟨tt,hto⟩ : ∃ tt,o.to = tt := ⟨_,rfl⟩
       rw [hto] at e0 h1 h2
       have g0 : ((bd.size : Int) == 0) = false := beq_false_of_ne (by omega)
       have g1 : ¬ tt < 0 := by omega
       have g2 : ¬ 4 < tt := by omega
       have hpos : 0 < bd.size := by omega
       have hoc := fun W => Rm.rof9_any W (bd.extract 1 bd.size) (by rw [hmt];unfold maxLen;omega)
       unfold Mof.OfPost at hoc
       have hof0 : (Mof.ofM (bd.extract 1 bd.size)).2 = 0 := by rw [hmt];exact hof
       simp only [hof0] at hoc
       have HOC := hZ0 hoc
       clear hoc hof0 hof hbs hmt hbd hbody hsz ho h1 h2 hto hnl1
       go_wp2_with fail
       refine (HOC.out _).mono ?_
       rintro e w11 ⟨x9,rfl,-,-,hk11⟩
       obtain ⟨Wz,W12,hWz,hst,hb12,hk12⟩ := lay_msg w11 x9
       have HR12 := hZ0 (HRJ.out.quiet (hk11.then hk12));have HO12 := hZ0 (HOJ.out.kept (hk11.then hk12))
       unfold xagg
       obtain ⟨cs9,hcs9⟩ : ∃ cs9,(xcell x9).toArray = cs9 := ⟨_,rfl⟩
       rw [hcs9] at hst ⊢
       clear hk11 hk12 hb12 hcs9 e0 eb g0 g1 g2 hpos
       go_wp2
       go_roundw
       case rel => exact ⟨j + 1,by omega,by go_num,HR12.out,HO12.out⟩
       case measure => simp [intOf];omega
      ·obtain rfl : j = nl := by omega
       have hi5' := HI.out
       go_wp2
       go_roundw
       case rel => exact ⟨i + 1,X',C',by omega,by omega,by go_num,HRJ.out⟩
       case measure => simp [intOf];omega
    ·have hb2 := hbb rfl
     subst hb2
     go_wp2_with fail
     clear hW8 hb13 s0 s1 s2 s3 s4 sf0 sf1 sf2 sf3 sf4 hV8
     refine HBZ8.out.mono ?_
     rintro e w9 ⟨rfl,rfl⟩
     go_wp2_with fail
     refine HSM.out.mono ?_
     rintro e w9 ⟨rfl,hk9⟩
     have HK9 := hZ0 hk9;clear hk9
     go_wp2_with fail
     have hnb : nl <= 9223372036854775807 := by have h1 := HNL.out.1;have h2 := HNL.out.2.1;have h3 := HNL.out.2.2;unfold maxLen at h3;omega
     go_loopw [15] (fun v15 wq => ∃ j : Nat,j <= nl /\ v15 = .int .i64 j /\ CRel w cb wq X' C' /\ NewSl 54 2 w.heap.size wq A' L.length c' (ocells L)) (fun v15 _ => nl - (intOf v15).toNat)
     case atStart => exact ⟨0,Nat.zero_le _,rfl,HR8.out.quiet HK9.out,HO8.out.kept HK9.out⟩
     case round =>
      obtain ⟨j,hj,rfl,hrj,hoj⟩ := hrel
      have HRJ := hZ0 hrj;have HOJ := hZ0 hoj
      clear hrj hoj HR8 HO8
      have hnl1 := HNL.out.1
      by_cases hjl : j < nl
      ·obtain ⟨o,ho⟩ : ∃ o,L[j]? = some o := ⟨_,List.getElem?_eq_getElem (by omega)⟩
       obtain ⟨h1,h2,so,hbody,hof,hsz⟩ := HOK.out o (List.mem_of_getElem? ho)
       obtain ⟨ad2,had2,hadl2,e0,eb⟩ := out_cells (Src.of_own HOJ.out.1) (by omega) j o ho
       subst had2
       rw [hbody] at eb
       have hbs := mB_size so
       have hmt := mB_tail so
       obtain ⟨bd,hbd⟩ : ∃ bd,mB so = bd := ⟨_,rfl⟩
       rw [hbd] at eb hbs hmt
       obtain ⟨tt,hto⟩ : ∃ tt,o.to = tt := ⟨_,rfl⟩
       rw [hto] at e0 h1 h2
       have g0 : ((bd.size : Int) == 0) = false := beq_false_of_ne (by omega)
       have g1 : ¬ tt < 0 := by omega
       have g2 : ¬ 4 < tt := by omega
       have hpos : 0 < bd.size := by omega
       have hoc := fun W => Rm.rof9_any W (bd.extract 1 bd.size) (by rw [hmt];unfold maxLen;omega)
       unfold Mof.OfPost at hoc
       have hof0 : (Mof.ofM (bd.extract 1 bd.size)).2 = 0 := by rw [hmt];exact hof
       simp only [hof0] at hoc
       have HOC := hZ0 hoc
       clear hoc hof0 hof hbs hmt hbd hbody hsz ho h1 h2 hto hnl1
       go_wp2_with fail
       refine (HOC.out _).mono ?_
       rintro e w11 ⟨x9,rfl,-,-,hk11⟩
       obtain ⟨Wz,W12,hWz,hst,hb12,hk12⟩ := lay_msg w11 x9
       have HR12 := hZ0 (HRJ.out.quiet (hk11.then hk12));have HO12 := hZ0 (HOJ.out.kept (hk11.then hk12))
       unfold xagg
       obtain ⟨cs9,hcs9⟩ : ∃ cs9,(xcell x9).toArray = cs9 := ⟨_,rfl⟩
       rw [hcs9] at hst ⊢
       clear hk11 hk12 hb12 hcs9 e0 eb g0 g1 g2 hpos
       go_wp2
       go_roundw
       case rel => exact ⟨j + 1,by omega,by go_num,HR12.out,HO12.out⟩
       case measure => simp [intOf];omega
      ·obtain rfl : j = nl := by omega
       have hi5' := HI.out
       go_wp2
       go_roundw
       case rel => exact ⟨i + 1,X',C',by omega,by omega,by go_num,HRJ.out⟩
       case measure => simp [intOf];omega
end Cli
end Go.Proofs.YtgbigpdiacjbgaaGreat

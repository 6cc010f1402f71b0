/- Part 33 of what the proof needs. -/
import Derived.Test.YtgbigpdiacjbgaaGreatKO06
import Derived.Test.YtgbigpdiacjbgaaGreatKO07
import Derived.Test.YtgbigpdiacjbgaaGreatKO31
set_option linter.unusedSimpArgs false
set_option linter.unusedVariables false
set_option maxHeartbeats 32000000
set_option maxRecDepth 100000
namespace Go.Proofs.YtgbigpdiacjbgaaGreat
open Go.RowKit
set_option maxRecDepth 100000
namespace Mof
open Plan Ops Ent Vn Msg Cof Wire Go.Proofs.YtgbigpdiacjbgaaGreat.Ask
theorem firstOf_map {α β : Type} (f : β -> Int) (g : α -> β) (l : List α) : firstOf f (l.map g) = firstOf (fun a => f (g a)) l := by
 induction l with
 | nil => rfl
 | cons a l ih => rw [List.map_cons,firstOf,firstOf,ih]
theorem wrongE_strip (x : MsgR) (c : Nat) : wrongE (strip x) c = wrongE x c := by
 have h1 : numI (strip x) c = numI x c := rfl
 have h2 : (strip x).es.length = x.es.length := by show (x.es.map stripE).length = _;rw [List.length_map]
 have h3 : firstOf (fun y => Ops.chk (bat y)) (strip x).es = firstOf (fun y => Ops.chk (bat y)) x.es := firstOf_map _ _ _
 unfold wrongE
 rw [h1,h2,h3]
 rfl
theorem chkM_strip (x : MsgR) : chkM (strip x) = chkM x := by
 unfold chkM
 rw [show wrongE (strip x) = wrongE x from funext (wrongE_strip x)]
 rfl
theorem EntsAt.mono {w : World} {B B' : Nat} {l : List EntR} (h : EntsAt w B l) (hB : B' <= B) : EntsAt w B' l := fun y hy => by
 obtain ⟨a1,a2,a3,a4⟩ := h y hy
 exact ⟨a1,a2,fun ad e => Nat.le_trans hB (a3 ad e),a4⟩
theorem XAt.mono {W : World} {B B' : Nat} {x : MsgR} (h : XAt W B x) (hB : B' <= B) : XAt W B' x :=
 ⟨h.m,h.mc,fun ad e => Nat.le_trans hB (h.mn ad e),h.ml,h.o,h.oc,fun ad e => Nat.le_trans hB (h.on ad e),h.e,h.ec,fun ad e => Nat.le_trans hB (h.en ad e),h.el,h.eo.mono hB,⟨h.s.1,fun k hk => Nat.le_trans hB (h.s.2 k hk)⟩,h.sl,h.so,h.p,h.pc,fun ad e => Nat.le_trans hB (h.pn ad e),h.pl,h.t,h.s0,h.pm⟩
theorem XAt.zero (W : World) (B : Nat) (k : Int) : XAt W B { zM with k := k } :=
 ⟨Src.nil _ _ _,Nat.le_refl _,(fun ad e => by cases e),Nat.zero_le _,Src.nil _ _ _,Nat.le_refl _,(fun ad e => by cases e),Src.nil _ _ _,Nat.le_refl _,(fun ad e => by cases e),Nat.zero_le _,(fun y hy => by cases hy),⟨⟨rfl,.inl ⟨rfl,rfl⟩⟩,(fun k hk => by simp [zM,Value.ownBlock] at hk)⟩,Nat.zero_le _,(fun y hy => by cases hy),Src.nil _ _ _,Nat.le_refl _,(fun ad e => by cases e),Nat.zero_le _,(show ((0 : Int) <= 0 /\ (0 : Int) <= maxTs) /\ ((0 : Int) <= 0 /\ (0 : Int) <= maxTs) /\ ((0 : Int) <= 0 /\ (0 : Int) <= maxTs) by unfold maxTs;decide),(fun _ => ⟨rfl,rfl⟩),Nat.zero_le _⟩
theorem iter_kept {W : World} {k : Nat} {s : ByteArray} {j : Nat} : Kept (fun i => i = k) W (W.iterAt k s j) := Kept.iterAt (Kept.refl (fun i => i = k) W) (.inl rfl) s j
theorem Src.iter {W : World} {size m : Nat} {A : Option Addr} {news : List Value} (h : Src W size A m news) (hsz : 0 < size) {k i j : Nat} {s : ByteArray} (hit : W.heap[k]? = some (.stringIter s i)) : Src (W.iterAt k s j) size A m news :=
 Src.kept0 h iter_kept fun h0 ad e hb => by
  obtain ⟨ad2,e2,_,hc⟩ := h.2 h0
  rw [e] at e2
  injection e2 with e2
  subst e2
  have hl : 0 < news.length := by rw [h.1];exact Nat.mul_pos h0 hsz
  have h1 := hc 0 _ (List.getElem?_eq_getElem hl)
  have h2 : W.cell? (ad.add 0) = none := by
   unfold World.cell?
   rw [block_add,hb,hit]
  rw [h2] at h1
  cases h1
theorem EntsAt.iter {W : World} {B : Nat} {l : List EntR} (h : EntsAt W B l) {k i j : Nat} {s : ByteArray} (hit : W.heap[k]? = some (.stringIter s i)) : EntsAt (W.iterAt k s j) B l := fun y hy => by
 obtain ⟨a1,a2⟩ := h y hy
 exact ⟨Src.iter a1 (by decide) hit,a2⟩
theorem XAt.iter {W : World} {B : Nat} {x : MsgR} (h : XAt W B x) {k i j : Nat} {s : ByteArray} (hit : W.heap[k]? = some (.stringIter s i)) : XAt (W.iterAt k s j) B x :=
 ⟨Src.iter h.m (by decide) hit,h.mc,h.mn,h.ml,Src.iter h.o (by decide) hit,h.oc,h.on,Src.iter h.e (by decide) hit,h.ec,h.en,h.el,h.eo.iter hit,⟨own_kept h.s.1 iter_kept (fun g hg e => by
  rcases h.s.1.2 with ⟨e1,_⟩ | ⟨g',cap,cur,e1,_,hh,_⟩
  ·rw [e1] at hg
   simp [Value.ownBlock] at hg
  ·rw [e1] at hg
   obtain rfl : g' = g := by simpa [Value.ownBlock] using hg
   rw [e,hit] at hh
   cases hh),h.s.2⟩,h.sl,h.so,Src.iter h.p (by decide) hit,h.pc,h.pn,h.pl,h.t,h.s0,h.pm⟩
theorem MS.iter {w W : World} {s : ByteArray} {g mb y : Nat} {x : MsgR} {r : RS} (o : Od w g mb y) (h : MS w s g mb y W x r) {k i j : Nat} {t : ByteArray} (hit : W.heap[k]? = some (.stringIter t i)) (hk : mb < k) (hw : w.heap.size <= k) : MS w s g mb y (W.iterAt k t j) x r := by
 have a := o.yg;have b := o.gm
 exact ⟨h.rd.kept iter_kept (by omega),h.hm.kept iter_kept (by omega),h.hy.kept iter_kept (by omega),h.at'.iter hit,h.k.trans iter_kept (fun i hi => by rw [hi];exact .inr hw)⟩
def OfPost (w : World) (s : ByteArray) (e : Ending) (w' : World) : Prop :=
 ∃ x,e = .returned (.tuple #[xagg x,.int .i64 (ofM s).2]) /\ strip x = (ofM s).1 /\ XAt w' w.heap.size x /\ Kept NoF w w'
abbrev kcells (n : Int) : Array Value := #[.int .i64 n,.int .i64 0,.int .i64 0,.int .i64 0,.bool false,.int .u64 0,.int .u64 0,.int .i64 0,.int .i64 0,.int .i64 0,.int .i64 0,.string ⟨#[]⟩,.string ⟨#[]⟩,.int .i64 0,.slice none 0 0,.int .u64 0,.int .i64 0,.int .i64 0,.slice none 0 0,.slice none 0 0,.slice none 0 0,.slice none 0 0]
section
variable {w W : World} {s : ByteArray} {g mb y : Nat} {x : MsgR} {r : RS}
theorem lay_y (h : Has W y 63 (xcell zM).toArray) (x : MsgR) : ∃ W',(storeMsg ⟨y,0,none⟩ (.agg (xcell x).toArray)).run Tryz.prog W = .ok () W' /\ Has W' y 63 (xcell x).toArray /\ Kept (fun k => k = y) W W' := put_msg h rfl x
theorem ofc_any (h : Has W mb 63 (xcell x).toArray) (hx : XOk W x) : Calls Tryz.prog 63 #[.pointer (some ⟨mb,0,none⟩)] W fun e w' => e = .returned (.int .i64 (chkM x)) /\ Kept NoF W w' := by
 have hc := mcheck_any W x hx
 obtain ⟨z,hz⟩ : ∃ z,chkM x = z := ⟨_,rfl⟩
 rw [hz] at hc ⊢
 have HC := hZ0 hc;have H := hZ0 h
 clear hc hz h hx
 go_enter Tryz.func63,Tryz.ntmps63
 go_wp2_with (refine wpList_load_row rfl 63 (.tmp 0) rfl mb rfl 63 _ (0,0) _ H.out Tryz.underlying63 rfl (by kernel_rfl) ?_)
 refine HC.out.mono ?_
 rintro e w2 ⟨rfl,hk⟩
 have HK := hZ0 hk;clear hk
 go_wp2
 go_ret
 exact ⟨rfl,HK.out⟩
end
theorem of_new {F : Nat -> Prop} {a b : World} (h : Kept F a b) (hF : ∀ k,F k -> a.heap.size <= k) : Kept NoF a b := (Kept.refl NoF a).trans h (fun i hi => .inr (hF i hi))
attribute [local go_sem ↓] storeVar_msg loadVar_msg
theorem mof_any (w : World) (s : ByteArray) (hs : s.size <= maxLen) : Calls Tryz.prog 29 #[.string s] w (OfPost w s) := by
 obtain ⟨W0,hW0⟩ : ∃ W0,w.alloc (.cells (xcell zM).toArray 63) = W0 := ⟨_,rfl⟩
 have hk0 : Kept NoF w W0 := by rw [<- hW0];(repeat' (first | (with_reducible first | exact kR0 | apply kP0 | apply kN0 | apply kD0 | apply kA0) | (right;simp;done)))
 have hy0 : Has W0 w.heap.size 63 (xcell zM).toArray := by rw [<- hW0];exact Has.new _ _ _
 have hop := open_any W0 s
 have hfin : ∀ W' x er,ofM s = (strip x,er) -> XAt W' w.heap.size x -> Kept NoF w W' -> OfPost w s (.returned (.tuple #[xagg x,.int .i64 er])) W' := fun W' x er e1 hx hk => ⟨x,by rw [e1],by rw [e1],hx,hk⟩
 have hofm : ofM s = if (rNum s 15 (0,0)).2.2 ≠ 0 then (zM,(rNum s 15 (0,0)).2.2)
   else if isKind (rNum s 15 (0,0)).1 = false then (zM,11)
   else if (readL s (partsOf (rNum s 15 (0,0)).1) { zM with k := (rNum s 15 (0,0)).1 } (rNum s 15 (0,0)).2).2.2 ≠ 0 then (zM,(readL s (partsOf (rNum s 15 (0,0)).1) { zM with k := (rNum s 15 (0,0)).1 } (rNum s 15 (0,0)).2).2.2)
   else if rEnd s (readL s (partsOf (rNum s 15 (0,0)).1) { zM with k := (rNum s 15 (0,0)).1 } (rNum s 15 (0,0)).2).2.1 ≠ 0 then (zM,rEnd s (readL s (partsOf (rNum s 15 (0,0)).1) { zM with k := (rNum s 15 (0,0)).1 } (rNum s 15 (0,0)).2).2.1)
   else if chkM (readL s (partsOf (rNum s 15 (0,0)).1) { zM with k := (rNum s 15 (0,0)).1 } (rNum s 15 (0,0)).2).1 ≠ 0 then (zM,chkM (readL s (partsOf (rNum s 15 (0,0)).1) { zM with k := (rNum s 15 (0,0)).1 } (rNum s 15 (0,0)).2).1)
   else ((readL s (partsOf (rNum s 15 (0,0)).1) { zM with k := (rNum s 15 (0,0)).1 } (rNum s 15 (0,0)).2).1,0) := rfl
 obtain ⟨q,hq⟩ : ∃ q,rNum s 15 (0,0) = q := ⟨_,rfl⟩
 rw [hq] at hofm
 obtain ⟨n,r1⟩ := q
 dsimp only at hofm
 obtain ⟨y,hy⟩ : ∃ y,w.heap.size = y := ⟨_,rfl⟩
 rw [hy] at hy0
 have HY0 := hZ0 hy0;have HK0 := hZ0 hk0;have HOP := hZ0 hop;have HFIN := hZ0 hfin;have HOFM := hZ0 hofm;have HQ := hZ0 hq;have HY := hZ0 hy
 generalize OfPost w s = Q at HFIN ⊢
 unfold xcell zM at hW0
 dsimp only [List.length_nil] at hW0
 clear hy0 hk0 hop hfin hofm hq
 go_enter Tryz.func29,Tryz.ntmps29
 go_wp2_with fail
 clear hW0 hy
 refine HOP.out.mono ?_
 rintro e w2 ⟨rfl,hr2,hk2⟩
 obtain ⟨g,hg⟩ : ∃ g,W0.heap.size = g := ⟨_,rfl⟩
 rw [hg] at hr2 ⊢
 have hyg : y < g := by have := HY0.out.lt;omega
 have HR2 := hZ0 hr2;have HY2 := hZ0 (HY0.out.kept hk2 (fun z => z));have HK2 := hZ0 (HK0.out.then hk2);have HYG := hZ0 hyg
 clear hr2 hk2 hg hyg HY0 HK0 HOP
 go_wp2_with fail
 refine (num_any _ g s (0,0) 15 HR2.out hs (by decide)).mono ?_
 rw [HQ.out]
 rintro e w3 ⟨rfl,hr3,hk3⟩
 dsimp only at hr3 ⊢
 have hn15 : n <= 15 := by have := rNum_le s 15 (0,0);rw [HQ.out] at this;exact this
 obtain ⟨Wz,W4,hWz,hst4,hb4,hk4⟩ := lay_msg w3 { zM with k := (n : Int) }
 obtain ⟨mb,hmb⟩ : ∃ mb,w3.heap.size = mb := ⟨_,rfl⟩
 rw [hmb] at hst4 hb4
 have hgm : g < mb := by have := hr3.1.lt;omega
 have hwg : w.heap.size <= g := by have := HY.out;have := HYG.out;omega
 have hms : MS w s g mb y W4 { zM with k := (n : Int) } r1 := ⟨hr3.kept hk4 (fun z => z),hb4,(HY2.out.kept hk3 (fun e => by have := HYG.out;omega)).kept hk4 (fun z => z),XAt.zero _ _ _,((HK2.out.mono (fun _ z => z.elim)).trans hk3 (fun i hi => .inl (.inl hi))).trans hk4 (fun _ z => z.elim)⟩
 have hod : Od w g mb y := ⟨HYG.out,hgm⟩
 have hun : ∀ W',Kept (fun k => k = g \/ k = mb) w W' -> Kept NoF w W' := fun W' hk => of_new hk (fun k hk2 => by omega)
 have HMS := hZ0 hms;have HOD := hZ0 hod;have HUN := hZ0 hun;have HN15 := hZ0 hn15;have HWG := hZ0 (And.intro hwg hgm)
 unfold xcell zM at hst4
 dsimp only [List.length_nil] at hst4
 clear hms hod hun hn15 hk4 hb4 hgm hwg hr3 hk3 HR2 HY2 HK2 HQ HYG
 go_wp2_with fail
 clear hWz hst4 hmb
 refine (err_any W4 g s r1 HMS.out.rd).mono ?_
 rintro e w5 ⟨rfl,rfl⟩
 obtain ⟨a1,er⟩ := r1
 dsimp only at HOFM ⊢
 have hbad : ∀ W x' r' ,MS w s g mb y W x' r' -> ∃ W6,(storeMsg ⟨y,0,none⟩ (.agg (kcells 0))).run Tryz.prog W = .ok () W6 /\ Has W6 y 63 (xcell zM).toArray /\ Kept NoF w W6 := fun W x' r' hm => by
  obtain ⟨W6,h1,h2,h3⟩ := lay_y hm.hy zM
  exact ⟨W6,h1,h2,(HUN.out _ hm.k).trans h3 (fun i hi => .inr (by have := HY.out;omega))⟩
 have HBAD := hZ0 hbad;clear hbad
 by_cases he : er = 0
 rotate_left
 ·have he2 : (er != 0) = true := by simpa using he
  have hof := HOFM.out
  rw [if_pos he] at hof
  have HOF := hZ0 hof
  obtain ⟨W6,hst,hy6,hk6⟩ := HBAD.out W4 _ _ HMS.out
  have HY6 := hZ0 hy6;have HK6 := hZ0 hk6
  clear hof he hy6 hk6 HOFM
  go_wp2_with fail
  refine bodyPost_ret (results_row_tmp rfl _ _ y _ rfl (run_loadMsg_has _ _ _ HY6.out)) rfl ?_
  exact HFIN.out W6 zM er HOF.out (XAt.zero _ _ 0) HK6.out
 subst he
 have hof := HOFM.out
 rw [if_neg (by simp)] at hof
 have HOF1 := hZ0 hof
 clear hof HOFM
 have q0 : W4.cell? ⟨mb,0,none⟩ = some (.int .i64 (n : Int)) := HMS.out.hm.cell 0
 cases hkd : isKind (n : Int) with
 | false =>
  have hpn := parts_no W4 (n : Int) hkd
  have hof := HOF1.out
  rw [if_pos hkd] at hof
  have HOF := hZ0 hof;have HPN := hZ0 hpn
  clear hof hpn HOF1 hkd
  go_wp2_with fail
  clear q0
  refine HPN.out.mono ?_
  rintro e w6 ⟨rfl,hk6⟩
  obtain ⟨W6,hst,hy6,hk7⟩ := HBAD.out w6 _ _ (HMS.out.quiet hk6)
  have HY6 := hZ0 hy6;have HK6 := hZ0 hk7
  clear hy6 hk6 hk7
  go_wp2_with fail
  refine bodyPost_ret (results_row_tmp rfl _ _ y _ rfl (run_loadMsg_has _ _ _ HY6.out)) rfl ?_
  exact HFIN.out W6 zM 11 HOF.out (XAt.zero _ _ 0) HK6.out
 | true =>
  have hpy := parts_yes W4 (n : Int) hkd
  have hof := HOF1.out
  rw [if_neg (by rw [hkd];decide)] at hof
  have hlet := parts_letters (n : Int)
  have h83 := parts_83 (n : Int)
  have hl7 := parts_len (n : Int)
  obtain ⟨l,hl⟩ : ∃ l,partsOf (n : Int) = l := ⟨_,rfl⟩
  rw [hl] at hpy hof hlet hl7
  simp only [hl] at h83
  have HOF := hZ0 hof;have HPY := hZ0 hpy;have HLET := hZ0 hlet;have H83 := hZ0 h83;have HL7 := hZ0 hl7
  clear hof hpy HOF1 hkd hlet h83 hl7 hl
  go_wp2_with fail
  clear q0
  refine HPY.out.mono ?_
  rintro e w6 ⟨rfl,hk6⟩
  have HMS6 := hZ0 (HMS.out.quiet hk6)
  clear hk6 HMS
  go_wp2_with fail
  have hmi : mb < w6.heap.size := HMS6.out.hm.lt
  have hwi : w.heap.size <= w6.heap.size := HMS6.out.k.size
  have HMI := hZ0 (And.intro hmi hwi)
  clear hmi hwi
  go_loopg [] l.length (fun gf wx => ∃ (i : Nat) (x' : MsgR) (r' : RS),i <= l.length /\ MS w s g mb y wx x' r' /\ readL s (l.take i) { zM with k := (n : Int) } (a1,0) = (strip x',r',0) /\ wx.heap[w6.heap.size]? = some (.stringIter (lets l) i) /\ l.length <= i + gf)
  case atStart => exact ⟨0,_,_,Nat.zero_le _,HMS6.out.quiet ((Kept.refl _ _).alloc _),by rw [List.take_zero];rfl,heap_alloc_new _ _,by omega⟩
  case round =>
   obtain ⟨i,x',r',hi,hm,hrl,hit,hfu⟩ := hrel
   clear HMS6
   by_cases hil : i < l.length
   ·obtain ⟨g',rfl⟩ : ∃ g',gk = g' + 1 := ⟨gk - 1,by omega⟩
    obtain ⟨c,hc⟩ : ∃ c,l[i]? = some c := ⟨_,List.getElem?_eq_getElem hil⟩
    have hci : l[i] = c := by rw [List.getElem?_eq_getElem hil] at hc;exact Option.some.inj hc
    have hcm := List.mem_of_getElem? hc
    obtain ⟨hps,hb,ha⟩ := lets_at HLET.out hc
    have hnx : ∀ ty,(Instr.next (.pointer (some ⟨w6.heap.size,0,none⟩)) true ty).run Tryz.prog wr = _ := fun ty => Lib.run_next_ascii_at wr w6.heap.size (lets l) i ty hit hps ha
    rw [hb] at hnx
    have hm2 := hm.iter HOD.out hit HMI.out.1 HMI.out.2 (j := i + 1)
    have hit2 := Lib.iterAt_heap wr w6.heap.size (lets l) i (i + 1) hit
    obtain ⟨W,hWd⟩ : ∃ W,wr.iterAt w6.heap.size (lets l) (i + 1) = W := ⟨_,rfl⟩
    rw [hWd] at hnx hm2 hit2
    have hss : c = 83 -> x'.ss = [] := fun e => by
     subst e
     have h1 := readL_ss s (l.take i) (H83.out i hc) { zM with k := (n : Int) } (a1,0)
     rw [hrl] at h1
     exact h1
    have hread := read_any (w := W) ⟨HOD.out.yg,HOD.out.gm⟩ (MS.base (w2 := W) hm2 (Kept.refl _ _)) hs (HLET.out c hcm) hss
    have htk : l.take (i + 1) = l.take i ++ [c] := by rw [List.take_succ_eq_append_getElem hil,hci]
    have hnext : readL s (l.take (i + 1)) { zM with k := (n : Int) } (a1,0) = if (readP s c (strip x') r').2.2 ≠ 0 then readP s c (strip x') r' else ((readP s c (strip x') r').1,(readP s c (strip x') r').2.1,0) := by
     rw [htk,readL_app,hrl,if_neg (by simp),readL_one]
    unfold ReadPost at hread
    obtain ⟨q,hq⟩ : ∃ q,readP s c (strip x') r' = q := ⟨_,rfl⟩
    rw [hq] at hread hnext
    obtain ⟨qx,qr,qe⟩ := q
    dsimp only at hread hnext
    have HREAD := hZ0 hread;have HNEXT := hZ0 hnext;have HIT2 := hZ0 hit2;have HM2 := hZ0 hm2
    clear hread hnext hit2 hm2 hss htk hq hrl hm hit hWd hb ha hps hc hci hcm
    go_wp2_with fail
    clear hnx
    refine HREAD.out.mono ?_
    rintro e w7 ⟨x2,rfl,hx2,hm7⟩
    have hm7w := MS.base (w2 := w) hm7 (HM2.out.k.then hm7.k)
    have hit7 : w7.heap[w6.heap.size]? = some (.stringIter (lets l) (i + 1)) := by
     have h9 : w6.heap.size < W.heap.size := by
      have h1 := HIT2.out
      rcases Nat.lt_or_ge w6.heap.size W.heap.size with h | h
      ·exact h
      ·rw [Array.getElem?_eq_none h] at h1;cases h1
     exact (hm7.k.block _ h9 (fun e => by have := HMI.out.1;have := HWG.out.2;omega)).trans HIT2.out
    by_cases he : qe = 0
    ·subst he
     have hnext := HNEXT.out
     rw [if_neg (by simp),<- hx2 rfl] at hnext
     have HM7 := hZ0 hm7w;have HIT7 := hZ0 hit7;have HNX7 := hZ0 hnext
     clear hm7w hit7 hnext hm7 hx2
     go_wp2
     go_roundg g'
     case measure => omega
     case rel => exact ⟨i + 1,x2,qr,by omega,HM7.out,HNX7.out,HIT7.out,by omega⟩
    ·have he2 : (qe != 0) = true := by simpa using he
     have hnext := HNEXT.out
     rw [if_pos he] at hnext
     have hall : readL s l { zM with k := (n : Int) } (a1,0) = (qx,qr,qe) := by
      have h1 := readL_app s (l.take (i + 1)) (l.drop (i + 1)) { zM with k := (n : Int) } (a1,0)
      rw [List.take_append_drop,hnext,if_pos he] at h1
      exact h1
     have hof := HOF.out
     rw [hall] at hof
     dsimp only at hof
     rw [if_pos he] at hof
     have HOF2 := hZ0 hof
     obtain ⟨W8,hst,hy8,hk8⟩ := HBAD.out w7 _ _ hm7w
     have HY8 := hZ0 hy8;have HK8 := hZ0 hk8
     clear hof hall hnext he hy8 hk8 hm7w hit7 hm7 hx2 HOF HNEXT
     go_wp2_with fail
     refine bodyPost_ret (results_row_tmp rfl _ _ y _ rfl (run_loadMsg_has _ _ _ HY8.out)) rfl ?_
     exact HFIN.out W8 zM qe HOF2.out (XAt.zero _ _ 0) HK8.out
   ·obtain rfl : i = l.length := by omega
    rw [List.take_length] at hrl
    have hps : ¬ l.length < (lets l).size := by rw [lets_size];omega
    have hnx : ∀ ty,(Instr.next (.pointer (some ⟨w6.heap.size,0,none⟩)) true ty).run Tryz.prog wr = _ := fun ty => Lib.run_next_end_at wr w6.heap.size (lets l) l.length ty hit hps
    have hof := HOF.out
    rw [hrl] at hof
    dsimp only at hof
    rw [if_neg (by simp)] at hof
    have hend := end_any wr g s r' hm.rd hs
    obtain ⟨ee,hee⟩ : ∃ ee,rEnd s r' = ee := ⟨_,rfl⟩
    rw [hee] at hof hend
    have HOF2 := hZ0 hof;have HEND := hZ0 hend;have HM := hZ0 hm
    clear hof hend hm hrl hit hps hee HOF
    go_wp2_with fail
    clear hnx
    refine HEND.out.mono ?_
    rintro e w8 ⟨rfl,hk8⟩
    have HM8 := hZ0 (HM.out.quiet hk8)
    clear hk8 HM HEND
    by_cases he : ee = 0
    rotate_left
    ·have hof := HOF2.out
     rw [if_pos he] at hof
     have HOF3 := hZ0 hof
     have he2 : (ee != 0) = true := by simpa using he
     have HE := hZ0 he
     clear hof he HOF2 he2
     go_wp2_with fail
     refine (or_bad _ _ _ HE.out).mono ?_
     rintro e w9 ⟨rfl,rfl⟩
     have he2 : (ee != 0) = true := by have := HE.out;simpa using this
     obtain ⟨W8,hst,hy8,hk8⟩ := HBAD.out _ _ _ HM8.out
     have HY8 := hZ0 hy8;have HK8 := hZ0 hk8
     clear hy8 hk8
     go_wp2_with fail
     refine bodyPost_ret (results_row_tmp rfl _ _ y _ rfl (run_loadMsg_has _ _ _ HY8.out)) rfl ?_
     exact HFIN.out W8 zM ee HOF3.out (XAt.zero _ _ 0) HK8.out
    subst he
    have hof := HOF2.out
    rw [if_neg (by simp),chkM_strip] at hof
    have hoc := ofc_any HM8.out.hm HM8.out.at'.ok
    obtain ⟨ck,hck⟩ : ∃ ck,chkM x' = ck := ⟨_,rfl⟩
    rw [hck] at hof hoc
    have HOF3 := hZ0 hof;have HOC := hZ0 hoc
    clear hof hoc hck HOF2
    go_wp2_with fail
    refine (or_ok _ 63 _ ck (fun args W => Mst.enters Tryz.func63 (by kernel_rfl) rfl args W) HOC.out).mono ?_
    rintro e w9 ⟨rfl,hk9⟩
    have HM9 := hZ0 (HM8.out.quiet hk9)
    clear hk9 HM8
    by_cases he : ck = 0
    rotate_left
    ·have hof := HOF3.out
     rw [if_pos he] at hof
     have HOF4 := hZ0 hof
     have he2 : (ck != 0) = true := by simpa using he
     obtain ⟨W8,hst,hy8,hk8⟩ := HBAD.out _ _ _ HM9.out
     have HY8 := hZ0 hy8;have HK8 := hZ0 hk8
     clear hy8 hk8 hof he HOF3
     go_wp2_with fail
     refine bodyPost_ret (results_row_tmp rfl _ _ y _ rfl (run_loadMsg_has _ _ _ HY8.out)) rfl ?_
     exact HFIN.out W8 zM ck HOF4.out (XAt.zero _ _ 0) HK8.out
    subst he
    have hof := HOF3.out
    rw [if_neg (by simp)] at hof
    have HOF4 := hZ0 hof
    obtain ⟨W8,hst,hy8,hk8⟩ := lay_y HM9.out.hy x'
    have hld := run_loadMsg_has w9 mb x' HM9.out.hm
    have hx8 : XAt W8 w.heap.size x' := (HM9.out.at'.kept hk8 (fun k hk => by have := HWG.out;have := HY.out;omega)).mono (by have := HWG.out;omega)
    have hkw : Kept NoF w W8 := (HUN.out _ HM9.out.k).trans hk8 (fun i hi => .inr (by have := HY.out;omega))
    have HY8 := hZ0 hy8;have HX8 := hZ0 hx8;have HKW := hZ0 hkw
    obtain ⟨cs,hcs⟩ : ∃ cs,(xcell x').toArray = cs := ⟨_,rfl⟩
    rw [hcs] at hst hld
    have HCS := hZ0 hcs
    clear hy8 hk8 hx8 hkw hof HOF3 hcs
    go_wp2_with fail
    refine bodyPost_ret (results_row_tmp rfl _ _ y _ rfl (run_loadMsg_has _ _ _ HY8.out)) rfl ?_
    exact HFIN.out W8 x' 0 HOF4.out HX8.out HKW.out
end Mof
end Go.Proofs.YtgbigpdiacjbgaaGreat

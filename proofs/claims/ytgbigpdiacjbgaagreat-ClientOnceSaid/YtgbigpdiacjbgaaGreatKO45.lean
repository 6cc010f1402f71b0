/- Part 46 of what the proof needs. -/
import Derived.Test.YtgbigpdiacjbgaaGreatKO44
set_option linter.unusedSimpArgs false
set_option linter.unusedVariables false
set_option maxHeartbeats 32000000
set_option maxRecDepth 100000
namespace Go.Proofs.YtgbigpdiacjbgaaGreat
open Go.RowKit
set_option maxRecDepth 100000
namespace Rm
open Plan Ops Ent Msg MO Vn Mof Cof Wire Go.Proofs.YtgbigpdiacjbgaaGreat.Ask
attribute [local go_sem ↓] storeVar_msg loadVar_msg
section
variable {w W W' : World} {s : ByteArray} {g b4 b6 l8 : Nat} {m x x' : MsgR} {r r' : RS} {v : Value} {e : Ending}
theorem inE_err {s : ByteArray} {r : RS} (h : (rText s 65536 r).2.2 ≠ 0) : inE s r = ((zero,0),(rText s 65536 r).2.2) := if_pos h
theorem inE_ok {s : ByteArray} {r : RS} (h : (rText s 65536 r).2.2 = 0) : inE s r = ofE (rText s 65536 r).1 := if_neg (fun z => z h)
def errE (s : ByteArray) (n : Nat) (r : RS) : Int := if (rEnts s n r).2.2 ≠ 0 then (rEnts s n r).2.2 else (rEnts s n r).2.1.2
theorem rNum_no {s : ByteArray} {most : Nat} {r : RS} (h : (rNum s most r).2.2 ≠ 0) : (rNum s most r).1 = 0 := by
 unfold rNum at h ⊢
 split
 ·rfl
 ·rename_i h1
  rw [if_neg h1] at h
  exact rBig_nil h
def StE (s : ByteArray) (n : Nat) (r3 : RS) (i : Nat) (er : Int) (l : List EntR) (r : RS) : Prop :=
 (er = 0 /\ r.2 = 0 /\ rEnts s i r3 = (l.map stripE,r,0) /\ l.length = i) \/ (er ≠ 0 /\ r.2 = 0 /\ errE s n r3 = er /\ l.length <= n) \/ (er = 0 /\ r.2 ≠ 0 /\ errE s n r3 = r.2 /\ l.length <= n)
def FinE (s : ByteArray) (n : Nat) (r3 : RS) (er : Int) (l : List EntR) (r : RS) : Prop :=
 (er = 0 /\ r.2 = 0 /\ rEnts s n r3 = (l.map stripE,r,0)) \/ (er ≠ 0 /\ errE s n r3 = er) \/ (er = 0 /\ r.2 ≠ 0 /\ errE s n r3 = r.2)
theorem push69 {wr w5 w6 : World} {A A1 : Option Addr} {c c1 : Nat} {l : List EntR} {y : EntR} (o : Oo w g b4 b6 l8) (h : Dm w s g b4 b6 l8 m { m with eA := A,ec := c,es := l } r wr) (hr : NewSl 183 4 (l8 + 1) wr A l.length c (ecells l)) (hes : EntsAt wr (l8 + 1) l) (hsp : SepE A l.length c l)
  (hy : Src wr 3 y.A y.ops.length (cells y.ops) /\ y.ops.length <= y.c /\ (∀ ad,y.A = some ad -> l8 + 1 <= ad.block) /\ 0 <= y.ts /\ y.ts <= maxTs) (hys : ∀ ad,y.A = some ad -> (Value.slice A l.length c).ownBlock ≠ some ad.block) (hk : Kept NoF wr w5)
  (ho : w6.ownsRow 0 183 4 (.slice A1 (l.length + 1) c1) (l.length + 1) (ecells l ++ ecell y)) (hg : w5.grownBy w6 (Value.slice A l.length c).ownBlock) (ha : (Value.slice A1 (l.length + 1) c1).ownBlock = (Value.slice A l.length c).ownBlock \/ (Value.slice A1 (l.length + 1) c1).ownBlock = some w5.heap.size) :
  Has w6 l8 63 (xcell { m with eA := A,ec := c,es := l }).toArray /\ (Dm w s g b4 b6 l8 m { m with eA := A1,ec := c1,es := l ++ [y] } r (w6.setCell ⟨l8,19,none⟩ (.slice A1 (l.length + 1) c1)) /\ NewSl 183 4 (l8 + 1) (w6.setCell ⟨l8,19,none⟩ (.slice A1 (l.length + 1) c1)) A1 (l ++ [y]).length c1 (ecells (l ++ [y])) /\
   EntsAt (w6.setCell ⟨l8,19,none⟩ (.slice A1 (l.length + 1) c1)) (l8 + 1) (l ++ [y]) /\ SepE A1 (l ++ [y]).length c1 (l ++ [y])) := by
 obtain ⟨h1,h2⟩ := h.grown o hk (Nat.lt_succ_self l8) hr.2 hg
 have hB : l8 + 1 <= w5.heap.size := Nat.le_trans h.h8.lt hk.size
 have hlen : (l ++ [y]).length = l.length + 1 := by simp
 have hk7 : Kept (fun k => (Value.slice A l.length c).ownBlock = some k \/ k = l8) wr (w6.setCell ⟨l8,19,none⟩ (.slice A1 (l.length + 1) c1)) := Kept.put (h2.mono (fun _ z => .inl z)) (.inl (.inr rfl))
 refine ⟨h1.h8,h1.put o (by unfold xcell;dsimp only;rw [hlen];rfl),?_,?_,?_⟩
 ·rw [ecells_snoc,hlen]
  exact newsl_put ⟨ho,fun k hk' => by
   rcases ha with e | e
   ·exact hr.2 k (e.symm.trans hk')
   ·have h9 := e.symm.trans hk'
    injection h9 with h9
    omega⟩ (Nat.lt_succ_self l8)
 ·intro z hz
  rcases List.mem_append.1 hz with hz | hz
  ·refine (hes.kept2 hk7 (fun z hz hp ad e hf => ?_)) z hz
   rcases hf with hf | hf
   ·exact hsp z hz hp ad e hf
   ·have := (hes z hz).2.2.1 ad e;omega
  ·rw [List.mem_singleton.1 hz]
   exact ⟨hy.1.kept hk7 (fun ad e hf => by
    rcases hf with hf | hf
    ·exact hys ad e hf
    ·have := hy.2.2.1 ad e;omega),hy.2⟩
 ·intro z hz hp ad e hb
  rw [hlen] at hb
  rcases ha with h9 | h9
  ·have hb' := h9.symm.trans hb
   rcases List.mem_append.1 hz with hz | hz
   ·exact hsp z hz hp ad e hb'
   ·rw [List.mem_singleton.1 hz] at e;exact hys ad e hb'
  ·have hb' := h9.symm.trans hb
   injection hb' with hb'
   have hs := hk.size
   rcases List.mem_append.1 hz with hz | hz
   ·have := srcLR (hes z hz).1 ⟨hp,ad,e,rfl⟩;omega
   ·rw [List.mem_singleton.1 hz] at e hp
    have := srcLR hy.1 ⟨hp,ad,e,rfl⟩;omega
theorem ls_69 {B : Nat} (h : DdAt w g s r) (hs : s.size <= maxLen) (m : MsgR) (hx : XAt w B m) (hB : g < B) (hBw : B <= w.heap.size) (h0 : m.eA = none /\ m.ec = 0 /\ m.es = []) : Calls Tryz.prog 71 #[.pointer (some ⟨g,0,none⟩),xagg m,.int .u8 69] w (RdE w s g B 69 m r) := by
 obtain ⟨W0,W1,Wz,W8,hW0,hW1,hWz,hl,hst,hd,ho⟩ := Dm.start h m
 have hrd := dnum_any W8 g s r 4 hd.rd hs (by decide)
 have hn8 := rNum_le s 4 r
 have hno := fun h => rNum_no (s := s) (most := 4) (r := r) h
 have hxe : m = { m with eA := none,ec := 0,es := [] } := by
  cases m
  dsimp only at h0
  obtain ⟨rfl,rfl,rfl⟩ := h0
  rfl
 have hp : readP s 69 (strip m) r = ({ strip m with es := (rEnts s (rNum s 4 r).1 (rNum s 4 r).2).1 },(rEnts s (rNum s 4 r).1 (rNum s 4 r).2).2.1,errE s (rNum s 4 r).1 (rNum s 4 r).2) := rfl
 have hfin : ∀ W W5 A cc l' r' er,l'.length <= 4 -> FinE s (rNum s 4 r).1 (rNum s 4 r).2 er l' r' -> NewSl 183 4 (W1.heap.size + 1) W A l'.length cc (ecells l') -> EntsAt W (W1.heap.size + 1) l' -> DdAt W5 g s r' -> Kept (fun k => k = g) w W5 -> Kept (fun k => k = W0.heap.size) W W5 ->
   RdE w s g B 69 m r (.returned (.tuple #[xagg { m with eA := A,ec := cc,es := l' },.int .i64 er])) W5 := fun W W5 A cc l' r' er hl4 hF hrow hes a b d => by
  have hx := hx.kept b (fun k hk => by omega)
  have hlt : ∀ k,k = W0.heap.size -> k < W1.heap.size + 1 := fun k hk => by have := ho.l68;omega
  have hrow5 := newsl_g hrow d hlt
  have hww : w.heap.size <= W1.heap.size + 1 := by have := ho.w4;have := ho.l46;have := ho.l68;omega
  refine ⟨_,er,r',rfl,a,⟨hx.m,hx.mc,hx.mn,hx.ml,hx.o,hx.oc,hx.on,Src.of_own hrow5.1,(own_cap hrow5.1).1,(fun ad e => by have h1 := row_above hrow5 ad e;omega),hl4,(hes.kept d hlt).mono (by omega),hx.s,hx.sl,hx.so,hx.p,hx.pc,hx.pn,hx.pl,hx.t,hx.s0,hx.pm⟩,b,fun k hk => ?_,⟨.inl rfl,.inr ⟨rfl,rfl,rfl⟩,.inr ⟨rfl,rfl,rfl⟩⟩,fun hz => ?_,fun hz => ?_⟩
  ·unfold rowB at hk ⊢
   dsimp only at hk
   rcases hk with z | z | z | z | z | z
   ·exact .inl (.inl z)
   ·exact .inl (.inr (.inl z))
   ·obtain ⟨_,ad,e,rfl⟩ := z;exact .inr (by have h1 := row_above hrow ad e;omega)
   ·obtain ⟨y,hy,_,ad,e,rfl⟩ := z;exact .inr (by have h1 := (hes y hy).2.2.1 ad e;omega)
   ·exact .inl (.inr (.inr (.inr (.inr (.inl z)))))
   ·exact .inl (.inr (.inr (.inr (.inr (.inr z)))))
  ·rw [hp] at hz ⊢
   dsimp only at hz ⊢
   rcases hF with ⟨f1,f2,f3⟩ | ⟨f1,f2⟩ | ⟨f1,f2,f3⟩
   ·rw [f3];exact ⟨f1,rfl,rfl⟩
   ·exact absurd (f2.symm.trans hz) f1
   ·exact absurd (f3.symm.trans hz) f2
  ·rw [hp] at hz ⊢
   dsimp only at hz ⊢
   rcases hF with ⟨f1,f2,f3⟩ | ⟨f1,f2⟩ | ⟨f1,f2,f3⟩
   ·exact absurd (by unfold errE;rw [f3];exact f2) hz
   ·exact .inl f2.symm
   ·exact .inr ⟨f1,f3.symm⟩
 generalize RdE w s g B 69 m r = Q at hfin ⊢
 obtain ⟨q,hq⟩ : ∃ q,rNum s 4 r = q := ⟨_,rfl⟩
 rw [hq] at hrd hn8 hno
 simp only [hq] at hfin
 obtain ⟨n,r3⟩ := q
 dsimp only at hrd hn8 hfin hno
 obtain ⟨b4,hb4⟩ : ∃ b,w.heap.size = b := ⟨_,rfl⟩
 obtain ⟨b6,hb6⟩ : ∃ b,W0.heap.size = b := ⟨_,rfl⟩
 obtain ⟨l8,hb8⟩ : ∃ b,W1.heap.size = b := ⟨_,rfl⟩
 rw [hb4] at hl
 rw [hb8] at hst
 rw [hb4,hb6,hb8] at hd ho
 simp only [hb6,hb8] at hfin
 have hgz : ∀ k,k = g -> k < l8 + 1 := fun k hk => by have := ho.gw;have := ho.w4;have := ho.l46;have := ho.l68;omega
 have hst0 : StE s n r3 0 0 [] r3 := by
  by_cases h3 : r3.2 = 0
  ·exact .inl ⟨rfl,h3,rfl,rfl⟩
  ·refine .inr (.inr ⟨rfl,h3,?_,Nat.zero_le _⟩)
   have h4 := hno h3
   subst h4
   rfl
 have HRD := hZ0 hrd;have HFIN := hZ0 hfin;have HD := hZ0 hd;have HO := hZ0 ho;have HN8 := hZ0 hn8;have HXE := hZ0 hxe;have HGZ := hZ0 hgz;have HST0 := hZ0 hst0
 obtain ⟨cs,hcs⟩ : ∃ cs,(xcell m).toArray = cs := ⟨_,rfl⟩
 unfold xagg
 rw [hcs] at hW0 hl hst ⊢
 clear hrd hfin hd ho hx hB hBw hq hp h hcs hn8 hxe h0 hgz hst0 hno
 go_enter Tryz.func71,Tryz.ntmps71
 go_wp2_with fail
 clear hW0 hW1 hWz hl hst hb4 hb6 hb8
 refine HRD.out.mono ?_
 intro e w3 hr
 obtain ⟨rfl,hd3,hk3⟩ := HD.out.read HO.out hr
 have HD3 := hZ0 hd3
 clear hr hd3 hk3 HD HRD
 go_wp2_with fail
 go_loopw [9,13] (fun v9 v13 wr => ∃ (i : Nat) (er : Int) (A : Option Addr) (cc : Nat) (l' : List EntR) (r' : RS),i <= n /\ v13 = .int .i64 i /\ v9 = .int .i64 er /\ StE s n r3 i er l' r' /\ NewSl 183 4 (l8 + 1) wr A l'.length cc (ecells l') /\ EntsAt wr (l8 + 1) l' /\ SepE A l'.length cc l' /\ Dm w s g b4 b6 l8 m { m with eA := A,ec := cc,es := l' } r' wr) (fun _ v13 _ => n - (intOf v13).toNat)
 case atStart => exact ⟨0,0,none,0,[],r3,Nat.zero_le _,rfl,rfl,HST0.out,⟨⟨rfl,.inl ⟨rfl,rfl⟩⟩,fun k hk => by simp [Value.ownBlock] at hk⟩,(fun y hy => by cases hy),(fun y hy => by cases hy),by have h9 := HD3.out;rw [HXE.out] at h9;exact ⟨h9.rd,by rw [HXE.out];exact h9.h4,h9.h6,h9.h8,h9.k⟩⟩
 case round =>
  obtain ⟨i,er,A,cc,l',r',hi,rfl,rfl,hstE,hrow,hes,hsp,hdm⟩ := hrel
  clear HD3 HXE HST0
  have qe : wr.cell? ⟨g,2,none⟩ = some (.int .i64 r'.2) := hdm.rd.1.cell 2
  have hfe := fun (hl4 : l'.length <= 4) (hF : FinE s n r3 er l' r') W5 => HFIN.out wr W5 A cc l' r' er hl4 hF hrow hes
  have hn4 := HN8.out
  obtain ⟨a1,e1⟩ := r'
  unfold StE at hstE
  dsimp only at qe hstE
  rcases hstE with ⟨rfl,rfl,h3,h4⟩ | ⟨h1,rfl,h3,h4⟩ | ⟨rfl,h2,h3,h4⟩
  ·by_cases hin : i < n
   rotate_left
   ·have hie : i = n := by omega
    have HFE := hZ0 (hfe (by omega) (.inl ⟨rfl,rfl,by rw [<- hie];exact h3⟩));have HD1 := hZ0 hdm
    clear hfe hdm hrow hes hsp h3 h4 hie HFIN qe hn4
    obtain ⟨W5,hst5,h65,hrd5,hk5,hk6⟩ := HD1.out.fin HO.out
    have hl4 := run_loadMsg_has _ l8 _ HD1.out.h8
    have hend := HFE.out W5 hrd5 hk5 hk6
    have HEND := hZ0 hend;have H65 := hZ0 (run_loadMsg_has _ _ _ h65)
    obtain ⟨cs2,hcs2⟩ : ∃ cs,(xcell { m with eA := A,ec := cc,es := l' }).toArray = cs := ⟨_,rfl⟩
    unfold xagg at HEND
    rw [hcs2] at hst5 hl4 H65 HEND
    clear hrd5 hk5 hk6 hend h65 hcs2 HD1 HFE
    go_wp2_with fail
    refine bodyPost_ret (results_row_tmp rfl _ _ b6 _ rfl H65.out) rfl ?_
    exact HEND.out
   ·have hstep : rEnts s (i + 1) r3 = if (inE s (a1,0)).2 ≠ 0 then ([],(rText s 65536 (a1,0)).2,(inE s (a1,0)).2) else (l'.map stripE ++ [entOf (inE s (a1,0)).1],(rText s 65536 (a1,0)).2,0) := by rw [rEnts,h3,if_neg (by simp)]
    have hts := inE_ts s (a1,0)
    have hie := inE_err (s := s) (r := (a1,0))
    have hio := inE_ok (s := s) (r := (a1,0))
    have htx := dtext_any wr g s (a1,0) 65536 hdm.rd hs (by decide)
    have hsz : (rText s 65536 (a1,0)).1.size <= maxLen := Nat.le_trans (text_size _ _ _) hs
    have hstop : ∀ z,rEnts s (i + 1) r3 = z -> z.2.2 ≠ 0 -> errE s n r3 = z.2.2 := fun z e1 e2 => by
     have h9 := rEnts_stop s r3 (i := i + 1) (by rw [e1];exact e2) (n - (i + 1))
     rw [show i + 1 + (n - (i + 1)) = n by omega,e1] at h9
     unfold errE
     rw [h9,if_pos e2]
    obtain ⟨q,hq⟩ : ∃ q,rText s 65536 (a1,0) = q := ⟨_,rfl⟩
    rw [hq] at htx hstep hie hio hsz
    obtain ⟨tx,a2,e2⟩ := q
    dsimp only at htx hstep hie hio hsz
    have HTX := hZ0 htx;have HSTEP := hZ0 hstep;have HTS := hZ0 hts;have HIE := hZ0 hie;have HIO := hZ0 hio;have HSZ := hZ0 hsz;have HDM := hZ0 hdm;have HROW := hZ0 hrow;have HES := hZ0 hes;have HSP := hZ0 hsp;have HL := hZ0 h4;have HSTOP := hZ0 hstop
    clear htx hstep hts hie hio hsz hq hdm hrow hes hsp h3 h4 hfe HFIN hn4 hstop
    go_wp2_with fail
    clear qe
    refine HTX.out.mono ?_
    intro e w5 hr
    obtain ⟨rfl,hd5,hk5⟩ := HDM.out.read HO.out hr
    have q5 : w5.cell? ⟨g,2,none⟩ = some (.int .i64 e2) := hd5.rd.1.cell 2
    have HROW5 := hZ0 (newsl_g HROW.out hk5 HGZ.out);have HES5 := hZ0 (HES.out.kept hk5 HGZ.out);have HD5 := hZ0 hd5
    clear hr hd5 hk5 HDM HROW HES HTX
    by_cases he : e2 = 0
    rotate_left
    ·have he2 : (e2 == 0) = false := by simpa using he
     have hst := HSTEP.out
     rw [HIE.out he] at hst
     dsimp only at hst
     rw [if_pos he] at hst
     have HSTN := hZ0 (HSTOP.out _ hst he);have HE := hZ0 he
     clear hst he HSTEP HIE HIO HSTOP
     have hn4 := HN8.out
     go_wp2
     go_roundw
     case rel => exact ⟨i + 1,0,A,cc,l',(a2,e2),by omega,by go_num,rfl,.inr (.inr ⟨rfl,HE.out,HSTN.out,by have := HL.out;omega⟩),HROW5.out,HES5.out,HSP.out,HD5.out⟩
     case measure => simp [intOf];omega
    ·subst he
     have hio := HIO.out rfl
     have hof := fun W => riof_any W tx HSZ.out
     unfold ReadE Cof.eagg at hof
     have hts := HTS.out
     have hst := HSTEP.out
     rw [hio] at hts hst
     obtain ⟨v,hv⟩ : ∃ v,ofE tx = v := ⟨_,rfl⟩
     rw [hv] at hts hst
     simp only [hv] at hof
     obtain ⟨⟨⟨cl,rq,ops⟩,ts⟩,er1⟩ := v
     dsimp only at hts hst hof
     obtain ⟨no,hno⟩ : ∃ no,ops.length = no := ⟨_,rfl⟩
     simp only [hno] at hof
     have HOF := hZ0 hof;have HTS1 := hZ0 hts;have HST := hZ0 hst;have HNO := hZ0 hno
     clear hio hof hts hst hv hno HIO HIE HSTEP HTS
     have hz0 := Has.new w5 183 #[.int .i64 0,.int .i64 0,.slice none 0 0,.int .u64 0]
     have hka : Kept NoF w5 (w5.alloc (.cells #[.int .i64 0,.int .i64 0,.slice none 0 0,.int .u64 0] 183)) := (Kept.refl NoF w5).alloc _
     obtain ⟨W7,hW7⟩ : ∃ W7,w5.alloc (.cells #[.int .i64 0,.int .i64 0,.slice none 0 0,.int .u64 0] 183) = W7 := ⟨_,rfl⟩
     obtain ⟨z,hz⟩ : ∃ z,w5.heap.size = z := ⟨_,rfl⟩
     have hwz : l8 + 1 <= w5.heap.size := HD5.out.h8.lt
     have hrz : ∀ k,(Value.slice A l'.length cc).ownBlock = some k -> k < z := fun k hk => by rw [<- hz];exact own_lt HROW5.out.1 hk
     rw [hW7] at hz0 hka
     rw [hz] at hz0 hwz
     have HZ0 := hZ0 hz0;have HKA := hZ0 hka;have HZ := hZ0 (And.intro hwz hrz)
     have HWZ := hZ0 hz.symm
     clear hz0 hka hwz hrz
     go_wp2_with fail
     clear hW7 hz q5
     refine (HOF.out W7).mono ?_
     rintro e w8 ⟨A5,c5,rfl,hs5,hc5,hc52,hn5,hk8⟩
     have hz8 := HZ0.out.kept hk8 (fun z => z)
     have q0 := hz8.cell 0;have q1 := hz8.cell 1;have q2 := hz8.cell 2;have q3 := hz8.cell 3
     have f0 := hz8.frozen 0;have f1 := hz8.frozen 1;have f2 := hz8.frozen 2;have f3 := hz8.frozen 3
     simp at q0 q1 q2 q3
     have hz9 : Has ((((w8.setCell ⟨z,0,none⟩ (.int .i64 cl)).setCell ⟨z,1,none⟩ (.int .i64 rq)).setCell ⟨z,2,none⟩ (.slice A5 no c5)).setCell ⟨z,3,none⟩ (.int .u64 ts)) z 183 #[.int .i64 cl,.int .i64 rq,.slice A5 no c5,.int .u64 ts] := Has.put_of (Has.put_of (Has.put_of (Has.put_of hz8 rfl) rfl) rfl) rfl
     have hk89 : Kept (fun k => k = z) w8 ((((w8.setCell ⟨z,0,none⟩ (.int .i64 cl)).setCell ⟨z,1,none⟩ (.int .i64 rq)).setCell ⟨z,2,none⟩ (.slice A5 no c5)).setCell ⟨z,3,none⟩ (.int .u64 ts)) := Kept.put (F := fun k => k = z) (Kept.put (F := fun k => k = z) (Kept.put (F := fun k => k = z) (Kept.put (F := fun k => k = z) (Kept.refl _ _) (.inl rfl)) (.inl rfl)) (.inl rfl)) (.inl rfl)
     obtain ⟨W9,hW9⟩ : ∃ W9,(((w8.setCell ⟨z,0,none⟩ (.int .i64 cl)).setCell ⟨z,1,none⟩ (.int .i64 rq)).setCell ⟨z,2,none⟩ (.slice A5 no c5)).setCell ⟨z,3,none⟩ (.int .u64 ts) = W9 := ⟨_,rfl⟩
     rw [hW9] at hz9 hk89
     have hzl := HZ0.out.lt
     have hd9 := ((HD5.out.quiet (HKA.out.then hk8))).far HO.out HZ.out.1 hk89
     have hr9 : NewSl 183 4 (l8 + 1) W9 A l'.length cc (ecells l') := ⟨own_kept ((HROW5.out.kept (HKA.out.then hk8)).1) hk89 (fun k hk e => by have := HZ.out.2 k hk;omega),HROW5.out.2⟩
     have he9 : EntsAt W9 (l8 + 1) l' := (HES5.out.kept (HKA.out.then hk8) (fun _ z => z.elim)).kept2 hk89 (fun y hy hp ad e hf => by
      have h9 := srcLR (HES5.out y hy).1 ⟨hp,ad,e,rfl⟩
      have h8 := hz8.lt
      have h7 := HKA.out.size
      have h6 : z = w5.heap.size := HWZ.out
      omega)
     have hy9 : Src W9 3 A5 ops.length (cells ops) := by
      rw [HNO.out]
      exact hs5.kept hk89 (fun ad e hf => by have := hn5 ad e;omega)
     have hn9 : ∀ ad,A5 = some ad -> l8 + 1 <= ad.block := fun ad e => by have h1 := hn5 ad e;have h2 := HZ.out.1;omega
     have hsn : ∀ ad,A5 = some ad -> (Value.slice A l'.length cc).ownBlock ≠ some ad.block := fun ad e hb => by have h1 := hn5 ad e;have h2 := HZ.out.2 _ hb;omega
     have zz0 := hz9.cell 0;have zz1 := hz9.cell 1;have zz2 := hz9.cell 2;have zz3 := hz9.cell 3
     simp only [List.getElem?_toArray,List.getElem?_cons_zero,List.getElem?_cons_succ] at zz0 zz1 zz2 zz3
     have x1 : W9.cell? ⟨l8,19,none⟩ = some (.slice A l'.length cc) := hd9.h8.cell 19
     have HD9 := hZ0 hd9;have HR9 := hZ0 hr9;have HE9 := hZ0 he9;have HY9 := hZ0 (And.intro hy9 (And.intro hc5 (And.intro hn9 hsn)))
     have HM1 : Hid (l'.length + 1 <= maxLen) := hZ0 (by have := HN8.out;have := HL.out;unfold maxLen;omega)
     have HM2 : Hid ((l'.length + 1) * 48 <= 140737488355328) := hZ0 (by have := HN8.out;have := HL.out;omega)
     have hn8 := HN8.out
     clear hs5 hc5 hc52 hn5 hk8 hz8 hz9 hk89 hzl hd9 hr9 he9 hy9 hn9 hsn HZ0 HD5 HROW5 HES5 HOF HKA HWZ
     go_wp2_with (at_builtin;refine list_append_src elemEntM (.tmp 86) (.tmp 88) rfl rfl (Value.slice A l'.length cc) rfl (own_kept HR9.out.1 (F := NoF) (by (repeat' (first | (with_reducible first | exact kR0 | apply kP0 | apply kN0 | apply kD0 | apply kA0) | (right;simp;done)))) (fun _ _ x => x)) 1 rfl (Src.of_has (t := 183) (size := 4) (m := 1) (cs := #[.int .i64 cl,.int .i64 rq,.slice A5 no c5,.int .u64 ts]) (by (repeat (first | with_reducible exact Has.new_at _ _ _ (by simp) | with_reducible apply Has.drew | with_reducible apply Has.drewN | with_reducible apply Has.alloc | (with_reducible apply Has.past <;> (try omega)) ))) rfl) (by intro u hu;simp at hu;rcases hu with rfl | rfl | rfl | rfl <;> rfl) HM1.out HM2.out ?_;intro A6 c6 w10 ho6 hg6 ha6;obtain ⟨h6,hs6⟩ := push69 (y := ⟨cl,rq,A5,c5,ops,ts⟩) HO.out HD9.out HR9.out HE9.out HSP.out ⟨HY9.out.1,(by show ops.length <= c5;rw [HNO.out];exact HY9.out.2.1),HY9.out.2.2.1,HTS1.out⟩ HY9.out.2.2.2 (by (repeat' (first | (with_reducible first | exact kR0 | apply kP0 | apply kN0 | apply kD0 | apply kA0) | (right;simp;done)))) (by unfold ecell;dsimp only;rw [HNO.out];exact ho6) hg6 ha6;have c6' : w10.cell? ⟨l8,19,none⟩ = some (.slice A l'.length cc) := h6.cell 19;have f6' := h6.frozen 19;have HS6 := hZ0 hs6;clear ho6 hg6 ha6 h6 hs6)
     go_roundw
     case rel =>
      refine ⟨i + 1,er1,A6,c6,l' ++ [⟨cl,rq,A5,c5,ops,ts⟩],(a2,0),by omega,by go_num,rfl,?_,HS6.out.2.1,HS6.out.2.2.1,HS6.out.2.2.2,HS6.out.1⟩
      have hst := HST.out
      have hll : (l' ++ [(⟨cl,rq,A5,c5,ops,ts⟩ : EntR)]).length = l'.length + 1 := by simp
      have hl := HL.out
      by_cases he1 : er1 = 0
      ·subst he1
       rw [if_neg (by simp)] at hst
       exact .inl ⟨rfl,rfl,by rw [hst,List.map_append];rfl,by rw [hll,hl]⟩
      ·rw [if_pos he1] at hst
       exact .inr (.inl ⟨he1,rfl,HSTOP.out _ hst he1,by rw [hll,hl];omega⟩)
     case measure => simp [intOf];omega
  ·have he2 : (er == 0) = false := by simpa using h1
   have HFE := hZ0 (hfe (by omega) (.inr (.inl ⟨h1,h3⟩)));have HD1 := hZ0 hdm
   clear hfe hdm hrow hes hsp h3 h4 h1 HFIN hn4
   by_cases hin : i < n
   all_goals
    obtain ⟨W5,hst5,h65,hrd5,hk5,hk6⟩ := HD1.out.fin HO.out
    have hl4 := run_loadMsg_has _ l8 _ HD1.out.h8
    have hend := HFE.out W5 hrd5 hk5 hk6
    have HEND := hZ0 hend;have H65 := hZ0 (run_loadMsg_has _ _ _ h65)
    obtain ⟨cs2,hcs2⟩ : ∃ cs,(xcell { m with eA := A,ec := cc,es := l' }).toArray = cs := ⟨_,rfl⟩
    unfold xagg at HEND
    rw [hcs2] at hst5 hl4 H65 HEND
    clear hrd5 hk5 hk6 hend h65 hcs2 HD1 HFE
    go_wp2_with fail
    refine bodyPost_ret (results_row_tmp rfl _ _ b6 _ rfl H65.out) rfl ?_
    exact HEND.out
  ·have he2 : (e1 == 0) = false := by simpa using h2
   have HFE := hZ0 (hfe (by omega) (.inr (.inr ⟨rfl,h2,h3⟩)));have HD1 := hZ0 hdm
   clear hfe hdm hrow hes hsp h3 h4 h2 HFIN hn4
   by_cases hin : i < n
   all_goals
    obtain ⟨W5,hst5,h65,hrd5,hk5,hk6⟩ := HD1.out.fin HO.out
    have hl4 := run_loadMsg_has _ l8 _ HD1.out.h8
    have hend := HFE.out W5 hrd5 hk5 hk6
    have HEND := hZ0 hend;have H65 := hZ0 (run_loadMsg_has _ _ _ h65)
    obtain ⟨cs2,hcs2⟩ : ∃ cs,(xcell { m with eA := A,ec := cc,es := l' }).toArray = cs := ⟨_,rfl⟩
    unfold xagg at HEND
    rw [hcs2] at hst5 hl4 H65 HEND
    clear hrd5 hk5 hk6 hend h65 hcs2 HD1 HFE
    go_wp2_with fail
    refine bodyPost_ret (results_row_tmp rfl _ _ b6 _ rfl H65.out) rfl ?_
    exact HEND.out
end
end Rm
end Go.Proofs.YtgbigpdiacjbgaaGreat

/- Part 44 of what the proof needs. -/
import Derived.Test.YtgbigpdiacjbgaaGreatKO42
set_option linter.unusedSimpArgs false
set_option linter.unusedVariables false
set_option maxHeartbeats 32000000
set_option maxRecDepth 100000
namespace Go.Proofs.YtgbigpdiacjbgaaGreat
open Go.RowKit
set_option maxRecDepth 100000
namespace Rm
open Plan Ops Ent Msg MO Vn Mof Cof Wire Go.Proofs.YtgbigpdiacjbgaaGreat.Ask
attribute [local go_sem ↓] storeVar_msg loadVar_msg
section
variable {w W W' : World} {s : ByteArray} {g b4 b6 l8 : Nat} {m x x' : MsgR} {r r' : RS} {v : Value} {e : Ending}
theorem inC_err {s : ByteArray} {r : RS} (h : (rText s 65536 r).2.2 ≠ 0) : inC s r = (zeroC,(rText s 65536 r).2.2) := if_pos h
theorem inC_ok {s : ByteArray} {r : RS} (h : (rText s 65536 r).2.2 = 0) : inC s r = ofC (rText s 65536 r).1 := if_neg (fun z => z h)
theorem inB_err {s : ByteArray} {r : RS} (h : (rText s 65536 r).2.2 ≠ 0) : inB' s r = (zero,(rText s 65536 r).2.2) := if_pos h
theorem inB_ok {s : ByteArray} {r : RS} (h : (rText s 65536 r).2.2 = 0) : inB' s r = ofB (rText s 65536 r).1 := if_neg (fun z => z h)
theorem ls_67 {B : Nat} (h : DdAt w g s r) (hs : s.size <= maxLen) (m : MsgR) (hx : XAt w B m) (hB : g < B) (hBw : B <= w.heap.size) : Calls Tryz.prog 71 #[.pointer (some ⟨g,0,none⟩),xagg m,.int .u8 67] w (RdE w s g B 67 m r) := by
 obtain ⟨W0,W1,Wz,W8,hW0,hW1,hWz,hl,hst,hd,ho⟩ := Dm.start h m
 have hrd := dtext_any W8 g s r 65536 hd.rd hs (by decide)
 have hsz : (rText s 65536 r).1.size <= maxLen := Nat.le_trans (text_size _ _ _) hs
 have hp : readP s 67 (strip m) r = ({ strip m with cep := (inC s r).1.ep,ms := (inC s r).1.ms,cfl := (inC s r).1.fl },(rText s 65536 r).2,(inC s r).2) := rfl
 have hbd : (rText s 65536 r).2.2 = 0 -> (ofC (rText s 65536 r).1).1.ms.length <= 4 /\ 0 <= (ofC (rText s 65536 r).1).1.fl /\ (ofC (rText s 65536 r).1).1.fl <= maxTs := fun he => by have := inC_in s r;rw [inC_ok he] at this;exact this
 have hbad : (rText s 65536 r).2.2 ≠ 0 -> ∀ W,DdAt W g s (rText s 65536 r).2 -> XAt W B m -> Kept (fun k => k = g) w W -> RdE w s g B 67 m r (.returned (.tuple #[xagg m,.int .i64 0])) W := fun he W a b d =>
  ⟨m,0,_,rfl,a,b,d,fun k hk => .inl hk,⟨.inr ⟨rfl,rfl,rfl⟩,.inr ⟨rfl,rfl,rfl⟩,.inr ⟨rfl,rfl,rfl⟩⟩,by rw [hp];dsimp only;rw [inC_err he];exact fun z => absurd z he,by rw [hp];dsimp only;rw [inC_err he];exact fun z => .inr ⟨rfl,rfl⟩⟩
 have hgood : (rText s 65536 r).2.2 = 0 -> ∀ W x er,er = (ofC (rText s 65536 r).1).2 -> strip x = { strip m with cep := (ofC (rText s 65536 r).1).1.ep,ms := (ofC (rText s 65536 r).1).1.ms,cfl := (ofC (rText s 65536 r).1).1.fl } -> DdAt W g s (rText s 65536 r).2 -> XAt W B x -> Kept (fun k => k = g) w W -> (∀ k,rowB x k -> rowB m k \/ w.heap.size <= k) -> keepL 67 m x -> RdE w s g B 67 m r (.returned (.tuple #[xagg x,.int .i64 er])) W := fun he W x er e1 e2 a b d f f2 =>
  ⟨x,er,_,rfl,a,b,d,f,f2,by rw [hp];dsimp only;rw [inC_ok he];exact fun z => ⟨e1.trans z,rfl,e2⟩,by rw [hp];dsimp only;rw [inC_ok he];exact fun z => .inl e1⟩
 generalize RdE w s g B 67 m r = Q at hbad hgood ⊢
 have hof := rcof_any
 obtain ⟨q,hq⟩ : ∃ q,rText s 65536 r = q := ⟨_,rfl⟩
 rw [hq] at hrd hbad hgood hsz hbd
 obtain ⟨tx,a2,er⟩ := q
 dsimp only at hrd hbad hgood hsz hbd
 have hof := fun W => hof W tx hsz
 obtain ⟨b4,hb4⟩ : ∃ b,w.heap.size = b := ⟨_,rfl⟩
 obtain ⟨b6,hb6⟩ : ∃ b,W0.heap.size = b := ⟨_,rfl⟩
 obtain ⟨l8,hb8⟩ : ∃ b,W1.heap.size = b := ⟨_,rfl⟩
 rw [hb4] at hl
 rw [hb8] at hst
 rw [hb4,hb6,hb8] at hd ho
 have HRD := hZ0 hrd;have HBAD := hZ0 hbad;have HGOOD := hZ0 hgood;have HD := hZ0 hd;have HO := hZ0 ho;have HX := hZ0 hx;have HB := hZ0 (And.intro hB hBw);have HOF := hZ0 hof;have HBD := hZ0 hbd
 have hwb : w.heap.size = b4 := hb4
 have HWB := hZ0 hwb;clear hwb
 obtain ⟨cs,hcs⟩ : ∃ cs,(xcell m).toArray = cs := ⟨_,rfl⟩
 have HCS := hZ0 hcs
 unfold xagg
 rw [hcs] at hW0 hl hst ⊢
 clear hrd hbad hgood hd ho hx hB hBw hq hp h hcs hof hsz hbd
 go_enter Tryz.func71,Tryz.ntmps71
 go_wp2_with fail
 clear hW0 hW1 hWz hl hst hb4 hb6 hb8
 refine HRD.out.mono ?_
 intro e w3 hr
 obtain ⟨rfl,hd3,hk3⟩ := HD.out.read HO.out hr
 have qe : w3.cell? ⟨g,2,none⟩ = some (.int .i64 er) := hd3.rd.1.cell 2
 by_cases he : er = 0
 rotate_left
 ·have he2 : (er == 0) = false := by simpa using he
  obtain ⟨W5,hst5,h65,hrd5,hk5,-⟩ := hd3.fin HO.out
  have hl4 := run_loadMsg_has _ l8 _ hd3.h8
  have hx := HX.out.kept hk5 (fun k hk => by have := HB.out;omega)
  have hend := HBAD.out he W5 hrd5 hx hk5
  have HEND := hZ0 hend;have H65 := hZ0 (run_loadMsg_has _ _ _ h65)
  unfold xagg at HEND
  rw [HCS.out] at hst5 hl4 H65 HEND
  clear hr hd3 hk3 hrd5 hk5 hx hend h65 he HGOOD HBAD HX HD HRD HOF
  go_wp2_with fail
  refine bodyPost_ret (results_row_tmp rfl _ _ b6 _ rfl H65.out) rfl ?_
  exact HEND.out
 ·subst he
  have hof := HOF.out w3
  have hgood := HGOOD.out rfl
  unfold ReadC at hof
  obtain ⟨q,hq⟩ : ∃ q,ofC tx = q := ⟨_,rfl⟩
  have hbd := HBD.out rfl
  rw [hq] at hof hbd
  simp only [hq] at hgood
  obtain ⟨⟨ep,ms,fl⟩,er0⟩ := q
  dsimp only at hof hgood hbd
  have HB2 := hZ0 hbd;clear hbd HBD
  obtain ⟨n,hn⟩ : ∃ n,ms.length = n := ⟨_,rfl⟩
  rw [hn] at hof
  have HOF1 := hZ0 hof;have HNN := hZ0 hn;have HD3 := hZ0 hd3;have HK3 := hZ0 hk3;have HG := hZ0 hgood
  clear hof hn hq hd3 hk3 hr hgood HGOOD HBAD HRD HD HOF
  go_wp2_with fail
  clear qe
  refine HOF1.out.mono ?_
  rintro e w4 ⟨A,c,rfl,hsr,hc1,hc2,hnw,hk⟩
  have hd4 := HD3.out.quiet hk
  have q0 : w4.cell? ⟨l8,13,none⟩ = some ((xcell m)[13]'(by show 13 < 22;decide)) := hd4.h8.cell 13
  have q1 : w4.cell? ⟨l8,14,none⟩ = some ((xcell m)[14]'(by show 14 < 22;decide)) := hd4.h8.cell 14
  have q2 : w4.cell? ⟨l8,15,none⟩ = some ((xcell m)[15]'(by show 15 < 22;decide)) := hd4.h8.cell 15
  have f0 := hd4.h8.frozen 13
  have f1 := hd4.h8.frozen 14
  have f2 := hd4.h8.frozen 15
  have hd5 := hd4.put (i := 13) (u := .int .i64 ep) (x' := { m with cep := ep }) HO.out rfl
  have hd6 := hd5.put (i := 14) (u := .slice A n c) (x' := { m with cep := ep,mA := A,mc := c,ms := ms }) HO.out (by rw [<- HNN.out];rfl)
  have hd7 := hd6.put (i := 15) (u := .int .u64 fl) (x' := { m with cep := ep,mA := A,mc := c,ms := ms,cfl := fl }) HO.out (by rfl)
  obtain ⟨W5,hst5,h65,hrd5,hk5,hk6⟩ := hd7.fin HO.out
  have hl4 := run_loadMsg_has _ l8 _ hd7.h8
  have h8l : l8 < w3.heap.size := HD3.out.h8.lt
  have hws : w.heap.size <= w3.heap.size := HD3.out.k.size
  have hk45 : Kept (fun k => k = l8 \/ k = b6) w4 W5 := Kept.trans ((((Kept.refl (fun k => k = l8 \/ k = b6) w4).put (.inl (.inl rfl))).put (.inl (.inl rfl))).put (.inl (.inl rfl))) hk6 (fun k hk => .inl (.inr hk))
  have hsr5 : Src W5 2 A ms.length (mcells ms) := by
   rw [HNN.out]
   exact hsr.kept hk45 (fun ad e hf => by have h1 := hnw ad e;have h2 := HO.out.l68;rcases hf with hf | hf <;> omega)
  have hx := HX.out.kept hk5 (fun k hk => by have := HB.out;omega)
  have hend := HG.out W5 ({ m with cep := ep,mA := A,mc := c,ms := ms,cfl := fl }) er0 rfl rfl hrd5 ⟨hsr5,by show ms.length <= c;rw [HNN.out];exact hc1,(fun ad e => by have h1 := hnw ad e;have h2 := HB.out;omega),HB2.out.1,hx.o,hx.oc,hx.on,hx.e,hx.ec,hx.en,hx.el,hx.eo,hx.s,hx.sl,hx.so,hx.p,hx.pc,hx.pn,hx.pl,⟨hx.t.1,hx.t.2.1,HB2.out.2⟩,hx.s0,hx.pm⟩ hk5 (fun k hk => by
   rcases hk with z | z | z | z | z | z
   ·obtain ⟨_,ad,e,rfl⟩ := z
    exact .inr (by have h1 := hnw ad e;omega)
   ·exact .inl (.inr (.inl z))
   ·exact .inl (.inr (.inr (.inl z)))
   ·exact .inl (.inr (.inr (.inr (.inl z))))
   ·exact .inl (.inr (.inr (.inr (.inr (.inl z)))))
   ·exact .inl (.inr (.inr (.inr (.inr (.inr z)))))) ⟨.inr ⟨rfl,rfl,rfl⟩,.inr ⟨rfl,rfl,rfl⟩,.inr ⟨rfl,rfl,rfl⟩⟩
  have HEND := hZ0 hend;have H65 := hZ0 (run_loadMsg_has _ _ _ h65)
  obtain ⟨cs2,hcs2⟩ : ∃ cs,(xcell ({ m with cep := ep,mA := A,mc := c,ms := ms,cfl := fl })).toArray = cs := ⟨_,rfl⟩
  unfold xagg at HEND
  rw [hcs2] at hst5 hl4 H65 HEND
  clear hrd5 hk5 hx hend h65 hcs2 hd4 hd5 hd6 hd7 hk6 hk45 hsr5 hsr hk HX HG HD3 HK3 HOF1
  go_wp2_with fail
  refine bodyPost_ret (results_row_tmp rfl _ _ b6 _ rfl H65.out) rfl ?_
  exact HEND.out
theorem ls_66 {B : Nat} (h : DdAt w g s r) (hs : s.size <= maxLen) (m : MsgR) (hx : XAt w B m) (hB : g < B) (hBw : B <= w.heap.size) : Calls Tryz.prog 71 #[.pointer (some ⟨g,0,none⟩),xagg m,.int .u8 66] w (RdE w s g B 66 m r) := by
 obtain ⟨W0,W1,Wz,W8,hW0,hW1,hWz,hl,hst,hd,ho⟩ := Dm.start h m
 have hrd := dtext_any W8 g s r 65536 hd.rd hs (by decide)
 have hsz : (rText s 65536 r).1.size <= maxLen := Nat.le_trans (text_size _ _ _) hs
 have hp : readP s 66 (strip m) r = ({ strip m with bcl := (inB' s r).1.cl,breq := (inB' s r).1.req,ops := (inB' s r).1.ops },(rText s 65536 r).2,(inB' s r).2) := rfl
 have hbad : (rText s 65536 r).2.2 ≠ 0 -> ∀ W,DdAt W g s (rText s 65536 r).2 -> XAt W B m -> Kept (fun k => k = g) w W -> RdE w s g B 66 m r (.returned (.tuple #[xagg m,.int .i64 0])) W := fun he W a b d =>
  ⟨m,0,_,rfl,a,b,d,fun k hk => .inl hk,⟨.inr ⟨rfl,rfl,rfl⟩,.inr ⟨rfl,rfl,rfl⟩,.inr ⟨rfl,rfl,rfl⟩⟩,by rw [hp];dsimp only;rw [inB_err he];exact fun z => absurd z he,by rw [hp];dsimp only;rw [inB_err he];exact fun z => .inr ⟨rfl,rfl⟩⟩
 have hgood : (rText s 65536 r).2.2 = 0 -> ∀ W x er,er = (ofB (rText s 65536 r).1).2 -> strip x = { strip m with bcl := (ofB (rText s 65536 r).1).1.cl,breq := (ofB (rText s 65536 r).1).1.req,ops := (ofB (rText s 65536 r).1).1.ops } -> DdAt W g s (rText s 65536 r).2 -> XAt W B x -> Kept (fun k => k = g) w W -> (∀ k,rowB x k -> rowB m k \/ w.heap.size <= k) -> keepL 66 m x -> RdE w s g B 66 m r (.returned (.tuple #[xagg x,.int .i64 er])) W := fun he W x er e1 e2 a b d f f2 =>
  ⟨x,er,_,rfl,a,b,d,f,f2,by rw [hp];dsimp only;rw [inB_ok he];exact fun z => ⟨e1.trans z,rfl,e2⟩,by rw [hp];dsimp only;rw [inB_ok he];exact fun z => .inl e1⟩
 generalize RdE w s g B 66 m r = Q at hbad hgood ⊢
 have hof := rof_new
 obtain ⟨q,hq⟩ : ∃ q,rText s 65536 r = q := ⟨_,rfl⟩
 rw [hq] at hrd hbad hgood hsz
 obtain ⟨tx,a2,er⟩ := q
 dsimp only at hrd hbad hgood hsz
 have hof := fun W => hof W tx hsz
 obtain ⟨b4,hb4⟩ : ∃ b,w.heap.size = b := ⟨_,rfl⟩
 obtain ⟨b6,hb6⟩ : ∃ b,W0.heap.size = b := ⟨_,rfl⟩
 obtain ⟨l8,hb8⟩ : ∃ b,W1.heap.size = b := ⟨_,rfl⟩
 rw [hb4] at hl
 rw [hb8] at hst
 rw [hb4,hb6,hb8] at hd ho
 have HRD := hZ0 hrd;have HBAD := hZ0 hbad;have HGOOD := hZ0 hgood;have HD := hZ0 hd;have HO := hZ0 ho;have HX := hZ0 hx;have HB := hZ0 (And.intro hB hBw);have HOF := hZ0 hof
 have hwb : w.heap.size = b4 := hb4
 have HWB := hZ0 hwb;clear hwb
 obtain ⟨cs,hcs⟩ : ∃ cs,(xcell m).toArray = cs := ⟨_,rfl⟩
 have HCS := hZ0 hcs
 unfold xagg
 rw [hcs] at hW0 hl hst ⊢
 clear hrd hbad hgood hd ho hx hB hBw hq hp h hcs hof hsz
 go_enter Tryz.func71,Tryz.ntmps71
 go_wp2_with fail
 clear hW0 hW1 hWz hl hst hb4 hb6 hb8
 refine HRD.out.mono ?_
 intro e w3 hr
 obtain ⟨rfl,hd3,hk3⟩ := HD.out.read HO.out hr
 have qe : w3.cell? ⟨g,2,none⟩ = some (.int .i64 er) := hd3.rd.1.cell 2
 by_cases he : er = 0
 rotate_left
 ·have he2 : (er == 0) = false := by simpa using he
  obtain ⟨W5,hst5,h65,hrd5,hk5,-⟩ := hd3.fin HO.out
  have hl4 := run_loadMsg_has _ l8 _ hd3.h8
  have hx := HX.out.kept hk5 (fun k hk => by have := HB.out;omega)
  have hend := HBAD.out he W5 hrd5 hx hk5
  have HEND := hZ0 hend;have H65 := hZ0 (run_loadMsg_has _ _ _ h65)
  unfold xagg at HEND
  rw [HCS.out] at hst5 hl4 H65 HEND
  clear hr hd3 hk3 hrd5 hk5 hx hend h65 he HGOOD HBAD HX HD HRD HOF
  go_wp2_with fail
  refine bodyPost_ret (results_row_tmp rfl _ _ b6 _ rfl H65.out) rfl ?_
  exact HEND.out
 ·subst he
  have hof := HOF.out w3
  have hgood := HGOOD.out rfl
  unfold ReadN bagg at hof
  obtain ⟨q,hq⟩ : ∃ q,ofB tx = q := ⟨_,rfl⟩
  rw [hq] at hof
  simp only [hq] at hgood
  obtain ⟨⟨cl,rq,ops⟩,er0⟩ := q
  dsimp only at hof hgood
  obtain ⟨n,hn⟩ : ∃ n,ops.length = n := ⟨_,rfl⟩
  rw [hn] at hof
  have HOF1 := hZ0 hof;have HNN := hZ0 hn;have HD3 := hZ0 hd3;have HK3 := hZ0 hk3;have HG := hZ0 hgood
  clear hof hn hq hd3 hk3 hr hgood HGOOD HBAD HRD HD HOF
  go_wp2_with fail
  clear qe
  refine HOF1.out.mono ?_
  rintro e w4 ⟨A,c,rfl,hsr,hc1,hc2,hnw,hk⟩
  have hd4 := HD3.out.quiet hk
  have q0 : w4.cell? ⟨l8,16,none⟩ = some ((xcell m)[16]'(by show 16 < 22;decide)) := hd4.h8.cell 16
  have q1 : w4.cell? ⟨l8,17,none⟩ = some ((xcell m)[17]'(by show 17 < 22;decide)) := hd4.h8.cell 17
  have q2 : w4.cell? ⟨l8,18,none⟩ = some ((xcell m)[18]'(by show 18 < 22;decide)) := hd4.h8.cell 18
  have f0 := hd4.h8.frozen 16
  have f1 := hd4.h8.frozen 17
  have f2 := hd4.h8.frozen 18
  have hd5 := hd4.put (i := 16) (u := .int .i64 cl) (x' := { m with bcl := cl }) HO.out rfl
  have hd6 := hd5.put (i := 17) (u := .int .i64 rq) (x' := { m with bcl := cl,breq := rq }) HO.out (by rfl)
  have hd7 := hd6.put (i := 18) (u := .slice A n c) (x' := { m with bcl := cl,breq := rq,oA := A,oc := c,ops := ops }) HO.out (by rw [<- HNN.out];rfl)
  obtain ⟨W5,hst5,h65,hrd5,hk5,hk6⟩ := hd7.fin HO.out
  have hl4 := run_loadMsg_has _ l8 _ hd7.h8
  have h8l : l8 < w3.heap.size := HD3.out.h8.lt
  have hws : w.heap.size <= w3.heap.size := HD3.out.k.size
  have hk45 : Kept (fun k => k = l8 \/ k = b6) w4 W5 := Kept.trans ((((Kept.refl (fun k => k = l8 \/ k = b6) w4).put (.inl (.inl rfl))).put (.inl (.inl rfl))).put (.inl (.inl rfl))) hk6 (fun k hk => .inl (.inr hk))
  have hsr5 : Src W5 3 A ops.length (cells ops) := by
   rw [HNN.out]
   exact hsr.kept hk45 (fun ad e hf => by have h1 := hnw ad e;have h2 := HO.out.l68;rcases hf with hf | hf <;> omega)
  have hx := HX.out.kept hk5 (fun k hk => by have := HB.out;omega)
  have hend := HG.out W5 ({ m with bcl := cl,breq := rq,oA := A,oc := c,ops := ops }) er0 rfl rfl hrd5 ⟨hx.m,hx.mc,hx.mn,hx.ml,hsr5,by show ops.length <= c;rw [HNN.out];exact hc1,(fun ad e => by have h1 := hnw ad e;have h2 := HB.out;omega),hx.e,hx.ec,hx.en,hx.el,hx.eo,hx.s,hx.sl,hx.so,hx.p,hx.pc,hx.pn,hx.pl,hx.t,hx.s0,hx.pm⟩ hk5 (fun k hk => by
   rcases hk with z | z | z | z | z | z
   ·exact .inl (.inl z)
   ·obtain ⟨_,ad,e,rfl⟩ := z
    exact .inr (by have h1 := hnw ad e;omega)
   ·exact .inl (.inr (.inr (.inl z)))
   ·exact .inl (.inr (.inr (.inr (.inl z))))
   ·exact .inl (.inr (.inr (.inr (.inr (.inl z)))))
   ·exact .inl (.inr (.inr (.inr (.inr (.inr z)))))) ⟨.inr ⟨rfl,rfl,rfl⟩,.inr ⟨rfl,rfl,rfl⟩,.inr ⟨rfl,rfl,rfl⟩⟩
  have HEND := hZ0 hend;have H65 := hZ0 (run_loadMsg_has _ _ _ h65)
  obtain ⟨cs2,hcs2⟩ : ∃ cs,(xcell ({ m with bcl := cl,breq := rq,oA := A,oc := c,ops := ops })).toArray = cs := ⟨_,rfl⟩
  unfold xagg at HEND
  rw [hcs2] at hst5 hl4 H65 HEND
  clear hrd5 hk5 hx hend h65 hcs2 hd4 hd5 hd6 hd7 hk6 hk45 hsr5 hsr hk HX HG HD3 HK3 HOF1
  go_wp2_with fail
  refine bodyPost_ret (results_row_tmp rfl _ _ b6 _ rfl H65.out) rfl ?_
  exact HEND.out
theorem rd_of {B c : Nat} (hc : c = 67 \/ c = 66 \/ c = 69 \/ c = 83 \/ c = 82) (h : DdAt w g s r) (m : MsgR) (hx : XAt w B m) (hB : g < B) (hBw : B <= w.heap.size)
  (hls : ∀ W,DdAt W g s r -> XAt W B m -> B <= W.heap.size -> Calls Tryz.prog 71 #[.pointer (some ⟨g,0,none⟩),xagg m,.int .u8 c] W (RdE W s g B c m r)) : Calls Tryz.prog 38 #[.pointer (some ⟨g,0,none⟩),xagg m,.int .u8 c] w (RdE w s g B c m r) := by
 obtain ⟨W0,W1,Wz,W8,hW0,hW1,hWz,hl,hst,hd,ho⟩ := Dm.start h m
 have hx8 := hx.kept hd.k (fun k hk => by omega)
 have hrd := hls W8 hd.rd hx8 (Nat.le_trans hBw hd.k.size)
 unfold RdE at hrd
 have hfin : ∀ W W' m' er r',DdAt W' g s r' -> XAt W B m' -> Kept (fun k => k = W0.heap.size) W W' -> Kept (fun k => k = g) w W' -> (∀ k,rowB m' k -> rowB m k \/ W8.heap.size <= k) -> keepL c m m' -> ((readP s c (strip m) r).2.2 = 0 -> er = 0 /\ r' = (readP s c (strip m) r).2.1 /\ strip m' = (readP s c (strip m) r).1) ->
  ((readP s c (strip m) r).2.2 ≠ 0 -> er = (readP s c (strip m) r).2.2 \/ (er = 0 /\ r'.2 = (readP s c (strip m) r).2.2)) -> RdE w s g B c m r (.returned (.tuple #[xagg m',.int .i64 er])) W' := fun W W' m' er r' a b d f k1 kl k2 k3 =>
  ⟨m',er,r',rfl,a,xatKR b d (fun k hk hr => by
   have hs6 := hd.h6.lt
   rcases k1 k hr with z | z
   ·have h1 := xatLR hx z
    have h2 := ho.l46
    have h3 := ho.w4
    omega
   ·omega),f,fun k hk => (k1 k hk).imp id (fun z => Nat.le_trans hd.k.size z),kl,k2,k3⟩
 have hl8 := run_loadMsg_has W8 w.heap.size m hd.h4
 have h6k : ∀ W,Kept (fun k => k = g) W8 W -> Has W W0.heap.size 63 (xcell zM).toArray := fun W hk => hd.h6.kept hk (by have h1 := ho.gw;have h2 := ho.w4;have h3 := ho.l46;omega)
 have hpost : ∀ W W' m' r',DdAt W g s r' -> XAt W B m' -> Kept (fun k => k = g) W8 W -> (storeMsg ⟨W0.heap.size,0,none⟩ (.agg (xcell m').toArray)).run Tryz.prog W = .ok () W' -> Kept (fun k => k = W0.heap.size) W W' -> DdAt W' g s r' /\ Kept (fun k => k = g) w W' := fun W W' m' r' a b d _ f => by
  have h1 := ho.gw;have h2 := ho.w4;have h3 := ho.l46
  exact ⟨a.kept f (by omega),(hd.k.trans d (fun _ z => .inl z)).trans f (fun k hk => .inr (by omega))⟩
 generalize RdE w s g B c m r = Q at hfin ⊢
 obtain ⟨b4,hb4⟩ : ∃ b,w.heap.size = b := ⟨_,rfl⟩
 obtain ⟨b6,hb6⟩ : ∃ b,W0.heap.size = b := ⟨_,rfl⟩
 obtain ⟨l8,hb8⟩ : ∃ b,W1.heap.size = b := ⟨_,rfl⟩
 rw [hb4] at hl hl8
 rw [hb8] at hst
 rw [hb6] at hfin h6k hpost
 have HRD := hZ0 hrd;have HFIN := hZ0 hfin;have H6 := hZ0 h6k;have HP := hZ0 hpost
 obtain ⟨cs,hcs⟩ : ∃ cs,(xcell m).toArray = cs := ⟨_,rfl⟩
 unfold xagg
 unfold xagg at HRD
 rw [hcs] at hW0 hl hl8 hst HRD ⊢
 clear hrd hfin hd ho hx hB hBw h hcs hls hx8 h6k hpost
 rcases hc with rfl | rfl | rfl | rfl | rfl
 all_goals
  go_enter Tryz.func38,Tryz.ntmps38
  go_wp2_with fail
  clear hW0 hW1 hWz hl hl8 hst hb4 hb6 hb8
  refine HRD.out.mono ?_
  rintro e w3 ⟨m',er,r',rfl,ha,hb,hk,k1,kl,k2,k3⟩
  obtain ⟨W5,h1,h2,h3⟩ := lay_y (H6.out w3 hk) m'
  obtain ⟨g1,g2⟩ := HP.out w3 W5 m' r' ha hb hk h1 h3
  have hend := HFIN.out w3 W5 m' er r' g1 hb h3 g2 k1 kl k2 k3
  have HEND := hZ0 hend;have H65 := hZ0 (run_loadMsg_has _ _ _ h2)
  obtain ⟨cs2,hcs2⟩ : ∃ cs,(xcell m').toArray = cs := ⟨_,rfl⟩
  unfold xagg at HEND
  rw [hcs2] at h1 H65 HEND
  rw [hcs2]
  clear ha hb hk k1 kl k2 k3 h2 h3 g1 g2 hend hcs2 HRD HFIN H6 HP
  go_wp2_with fail
  refine bodyPost_ret (results_row_tmp rfl _ _ b6 _ rfl H65.out) rfl ?_
  exact HEND.out
end
end Rm
end Go.Proofs.YtgbigpdiacjbgaaGreat

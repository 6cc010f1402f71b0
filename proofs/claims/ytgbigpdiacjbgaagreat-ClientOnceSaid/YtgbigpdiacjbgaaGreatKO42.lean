/- Part 43 of what the proof needs. -/
import Derived.Test.YtgbigpdiacjbgaaGreatKO32
import Derived.Test.YtgbigpdiacjbgaaGreatKO38
import Derived.Test.YtgbigpdiacjbgaaGreatKO41
set_option linter.unusedSimpArgs false
set_option linter.unusedVariables false
set_option maxHeartbeats 32000000
set_option maxRecDepth 100000
namespace Go.Proofs.YtgbigpdiacjbgaaGreat
open Go.RowKit
set_option maxRecDepth 100000
namespace Rm
open Plan Ops Ent Msg MO Vn Mof Cof Wire Go.Proofs.YtgbigpdiacjbgaaGreat.Ask
attribute [local go_sem ↓] storeVar_msg loadVar_msg
def rowB (x : MsgR) (k : Nat) : Prop := (0 < x.ms.length /\ ∃ ad,x.mA = some ad /\ ad.block = k) \/ (0 < x.ops.length /\ ∃ ad,x.oA = some ad /\ ad.block = k) \/ (0 < x.es.length /\ ∃ ad,x.eA = some ad /\ ad.block = k) \/ (∃ y ∈ x.es,0 < y.ops.length /\ ∃ ad,y.A = some ad /\ ad.block = k) \/ (Value.slice x.sA x.ss.length x.sc).ownBlock = some k \/ (0 < x.ps.length /\ ∃ ad,x.pA = some ad /\ ad.block = k)
theorem srcKR {F : Nat -> Prop} {w w' : World} {size m : Nat} {A : Option Addr} {news : List Value} (h : Src w size A m news) (hk : Kept F w w') (hf : ∀ k,F k -> ¬ (0 < m /\ ∃ ad,A = some ad /\ ad.block = k)) : Src w' size A m news := by
 rcases Nat.eq_zero_or_pos m with rfl | h0
 ·exact ⟨h.1,fun h => absurd h (by omega)⟩
 ·exact h.kept hk (fun ad e hF => hf _ hF ⟨h0,ad,e,rfl⟩)
theorem srcLR {w : World} {size m : Nat} {A : Option Addr} {news : List Value} (h : Src w size A m news) {k : Nat} (hr : 0 < m /\ ∃ ad,A = some ad /\ ad.block = k) : k < w.heap.size := by
 obtain ⟨h0,ad,e,rfl⟩ := hr
 obtain ⟨ad',e',hl,-⟩ := h.2 h0
 rw [e] at e'
 injection e' with e'
 rw [e']
 exact hl
theorem xatKR {W W' : World} {B : Nat} {x : MsgR} {F : Nat -> Prop} (h : XAt W B x) (hk : Kept F W W') (hF : ∀ k,F k -> ¬ rowB x k) : XAt W' B x :=
 ⟨srcKR h.m hk (fun k f z => hF k f (.inl z)),h.mc,h.mn,h.ml,srcKR h.o hk (fun k f z => hF k f (.inr (.inl z))),h.oc,h.on,srcKR h.e hk (fun k f z => hF k f (.inr (.inr (.inl z)))),h.ec,h.en,h.el,
  fun y hy => ⟨srcKR (h.eo y hy).1 hk (fun k f z => hF k f (.inr (.inr (.inr (.inl ⟨y,hy,z⟩))))),(h.eo y hy).2⟩,⟨own_kept h.s.1 hk (fun k z f => hF k f (.inr (.inr (.inr (.inr (.inl z)))))),h.s.2⟩,h.sl,h.so,srcKR h.p hk (fun k f z => hF k f (.inr (.inr (.inr (.inr (.inr z)))))),h.pc,h.pn,h.pl,h.t,h.s0,h.pm⟩
theorem xatLR {W : World} {B : Nat} {x : MsgR} (h : XAt W B x) {k : Nat} (hr : rowB x k) : k < W.heap.size := by
 rcases hr with z | z | z | ⟨y,hy,z⟩ | z | z
 ·exact srcLR h.m z
 ·exact srcLR h.o z
 ·exact srcLR h.e z
 ·exact srcLR (h.eo y hy).1 z
 ·exact own_lt h.s.1 z
 ·exact srcLR h.p z
def keepL (c : Nat) (m m' : MsgR) : Prop := (c = 69 \/ (m'.eA = m.eA /\ m'.ec = m.ec /\ m'.es = m.es)) /\ (c = 83 \/ (m'.sA = m.sA /\ m'.sc = m.sc /\ m'.ss = m.ss)) /\ (c = 82 \/ (m'.pA = m.pA /\ m'.pc = m.pc /\ m'.ps = m.ps))
def RdE (w : World) (s : ByteArray) (g B c : Nat) (m : MsgR) (r : RS) (e : Ending) (w' : World) : Prop :=
 ∃ m' er r',e = .returned (.tuple #[xagg m',.int .i64 er]) /\ DdAt w' g s r' /\ XAt w' B m' /\ Kept (fun k => k = g) w w' /\ (∀ k,rowB m' k -> rowB m k \/ w.heap.size <= k) /\ keepL c m m' /\
  ((readP s c (strip m) r).2.2 = 0 -> er = 0 /\ r' = (readP s c (strip m) r).2.1 /\ strip m' = (readP s c (strip m) r).1) /\
  ((readP s c (strip m) r).2.2 ≠ 0 -> er = (readP s c (strip m) r).2.2 \/ (er = 0 /\ r'.2 = (readP s c (strip m) r).2.2))
structure Dm (w : World) (s : ByteArray) (g b4 b6 l8 : Nat) (m x : MsgR) (r : RS) (W : World) : Prop where
 rd : DdAt W g s r
 h4 : Has W b4 63 (xcell m).toArray
 h6 : Has W b6 63 (xcell zM).toArray
 h8 : Has W l8 63 (xcell x).toArray
 k : Kept (fun k => k = g) w W
structure Oo (w : World) (g b4 b6 l8 : Nat) : Prop where
 gw : g < w.heap.size
 w4 : w.heap.size <= b4
 l46 : b4 < b6
 l68 : b6 < l8
section
variable {w W W' : World} {s : ByteArray} {g b4 b6 l8 : Nat} {m x x' : MsgR} {r r' : RS} {v : Value} {e : Ending}
theorem Dm.read (o : Oo w g b4 b6 l8) (h : Dm w s g b4 b6 l8 m x r W) (hr : DRead W g s v r' e W') : e = .returned v /\ Dm w s g b4 b6 l8 m x r' W' /\ Kept (fun k => k = g) W W' := by
 obtain ⟨h1,h2,h3⟩ := hr
 have a := o.gw;have b := o.w4;have c := o.l46;have d := o.l68
 exact ⟨h1,⟨h2,h.h4.kept h3 (by omega),h.h6.kept h3 (by omega),h.h8.kept h3 (by omega),h.k.trans h3 (fun _ hk => .inl hk)⟩,h3⟩
theorem Dm.quiet (h : Dm w s g b4 b6 l8 m x r W) (hk : Kept NoF W W') : Dm w s g b4 b6 l8 m x r W' :=
 ⟨h.rd.kept hk (fun z => z),h.h4.kept hk (fun z => z),h.h6.kept hk (fun z => z),h.h8.kept hk (fun z => z),h.k.trans hk (fun _ z => z.elim)⟩
theorem Dm.put (o : Oo w g b4 b6 l8) (h : Dm w s g b4 b6 l8 m x r W) {i : Nat} {u : Value} (he : (xcell x).toArray.setIfInBounds i u = (xcell x').toArray) : Dm w s g b4 b6 l8 m x' r (W.setCell ⟨l8,i,none⟩ u) := by
 have a := o.gw;have b := o.w4;have c := o.l46;have d := o.l68
 have hk : Kept (fun k => k = l8) W (W.setCell ⟨l8,i,none⟩ u) := (Kept.refl _ W).put (.inl rfl)
 exact ⟨h.rd.kept hk (by omega),h.h4.kept hk (by omega),h.h6.kept hk (by omega),Has.put_of h.h8 he,h.k.trans hk (fun k hk => .inr (by omega))⟩
theorem Dm.fin (o : Oo w g b4 b6 l8) (h : Dm w s g b4 b6 l8 m x r W) : ∃ W',(storeMsg ⟨b6,0,none⟩ (.agg (xcell x).toArray)).run Tryz.prog W = .ok () W' /\ Has W' b6 63 (xcell x).toArray /\ DdAt W' g s r /\ Kept (fun k => k = g) w W' /\ Kept (fun k => k = b6) W W' := by
 obtain ⟨W',h1,h2,h3⟩ := lay_y h.h6 x
 have a := o.gw;have b := o.w4;have c := o.l46;have d := o.l68
 exact ⟨W',h1,h2,h.rd.kept h3 (by omega),h.k.trans h3 (fun k hk => .inr (by omega)),h3⟩
theorem Dm.start (h : DdAt w g s r) (m : MsgR) : ∃ W0 W1 Wz W8,w.alloc (.cells (xcell m).toArray 63) = W0 /\ W0.alloc (.cells zcells 63) = W1 /\ W1.alloc (.cells zcells 63) = Wz /\ (loadMsg ⟨w.heap.size,0,none⟩).run Tryz.prog W1 = .ok (.agg (xcell m).toArray) W1 /\ (storeMsg ⟨W1.heap.size,0,none⟩ (.agg (xcell m).toArray)).run Tryz.prog Wz = .ok () W8 /\ Dm w s g w.heap.size W0.heap.size W1.heap.size m m r W8 /\ Oo w g w.heap.size W0.heap.size W1.heap.size := by
 obtain ⟨W0,hW0⟩ : ∃ W0,w.alloc (.cells (xcell m).toArray 63) = W0 := ⟨_,rfl⟩
 obtain ⟨W1,hW1⟩ : ∃ W1,W0.alloc (.cells zcells 63) = W1 := ⟨_,rfl⟩
 have hk0 : Kept NoF w W0 := by rw [<- hW0];(repeat' (first | (with_reducible first | exact kR0 | apply kP0 | apply kN0 | apply kD0 | apply kA0) | (right;simp;done)))
 have hk1 : Kept NoF W0 W1 := by rw [<- hW1];(repeat' (first | (with_reducible first | exact kR0 | apply kP0 | apply kN0 | apply kD0 | apply kA0) | (right;simp;done)))
 have hn0 : Has W0 w.heap.size 63 (xcell m).toArray := by rw [<- hW0];exact Has.new _ _ _
 have hn1 : Has W1 W0.heap.size 63 (xcell zM).toArray := by rw [<- hW1];exact Has.new _ _ _
 obtain ⟨Wz,W8,h1,h2,h3,h4⟩ := lay_msg W1 m
 have hn01 := hn0.kept hk1 (fun z => z)
 have s0 := hn0.lt
 have s1 := hn1.lt
 exact ⟨W0,W1,Wz,W8,hW0,hW1,h1,run_loadMsg_has _ _ _ hn01,h2,⟨((h.kept hk0 (fun z => z)).kept hk1 (fun z => z)).kept h4 (fun z => z),hn01.kept h4 (fun z => z),hn1.kept h4 (fun z => z),h3,((hk0.then hk1).then h4).mono (fun _ z => z.elim)⟩,⟨h.1.lt,Nat.le_refl _,s0,s1⟩⟩
theorem RdE.simple {B c : Nat} {W : World} (h1 : strip x = (readP s c (strip m) r).1) (h2 : (readP s c (strip m) r).2.1.2 = (readP s c (strip m) r).2.2) (h3 : DdAt W g s (readP s c (strip m) r).2.1) (h4 : XAt W B x) (h5 : Kept (fun k => k = g) w W) (h6 : ∀ k,rowB x k -> rowB m k \/ w.heap.size <= k) (h7 : keepL c m x) :
  RdE w s g B c m r (.returned (.tuple #[xagg x,.int .i64 0])) W := ⟨x,0,_,rfl,h3,h4,h5,h6,h7,fun _ => ⟨rfl,rfl,h1⟩,fun _ => .inr ⟨rfl,h2⟩⟩
theorem rd_101 {B : Nat} (h : DdAt w g s r) (hs : s.size <= maxLen) (m : MsgR) (hx : XAt w B m) (hB : g < B) : Calls Tryz.prog 38 #[.pointer (some ⟨g,0,none⟩),xagg m,.int .u8 101] w (RdE w s g B 101 m r) := by
 obtain ⟨W0,W1,Wz,W8,hW0,hW1,hWz,hl,hst,hd,ho⟩ := Dm.start h m
 have hrd := dnum_any W8 g s r 1073741824 hd.rd hs (by decide)
 have hp : readP s 101 (strip m) r = ({ strip m with ep := ((rNum s 1073741824 r).1 : Int) },(rNum s 1073741824 r).2,(rNum s 1073741824 r).2.2) := rfl
 have hfin : ∀ W x,strip x = { strip m with ep := ((rNum s 1073741824 r).1 : Int) } -> DdAt W g s (rNum s 1073741824 r).2 -> XAt W B x -> Kept (fun k => k = g) w W -> (∀ k,rowB x k -> rowB m k \/ w.heap.size <= k) -> keepL 101 m x -> RdE w s g B 101 m r (.returned (.tuple #[xagg x,.int .i64 0])) W := fun W x a b c d f f2 => RdE.simple (by rw [hp];exact a) (by rw [hp]) (by rw [hp];exact b) c d f f2
 generalize RdE w s g B 101 m r = Q at hfin ⊢
 obtain ⟨q,hq⟩ : ∃ q,rNum s 1073741824 r = q := ⟨_,rfl⟩
 rw [hq] at hrd hfin
 obtain ⟨n,r2⟩ := q
 dsimp only at hrd hfin
 obtain ⟨b4,hb4⟩ : ∃ b,w.heap.size = b := ⟨_,rfl⟩
 obtain ⟨b6,hb6⟩ : ∃ b,W0.heap.size = b := ⟨_,rfl⟩
 obtain ⟨l8,hb8⟩ : ∃ b,W1.heap.size = b := ⟨_,rfl⟩
 rw [hb4] at hl
 rw [hb8] at hst
 rw [hb4,hb6,hb8] at hd ho
 have HRD := hZ0 hrd;have HFIN := hZ0 hfin;have HD := hZ0 hd;have HO := hZ0 ho;have HX := hZ0 hx;have HB := hZ0 hB
 obtain ⟨cs,hcs⟩ : ∃ cs,(xcell m).toArray = cs := ⟨_,rfl⟩
 unfold xagg
 rw [hcs] at hW0 hl hst ⊢
 clear hrd hfin hd ho hx hB hq hp h hcs
 go_enter Tryz.func38,Tryz.ntmps38
 go_wp2_with fail
 clear hW0 hW1 hWz hl hst hb4 hb6 hb8
 refine HRD.out.mono ?_
 intro e w3 hr
 obtain ⟨rfl,hd3,hk3⟩ := HD.out.read HO.out hr
 have q : w3.cell? ⟨l8,1,none⟩ = some ((xcell m)[1]'(by show 1 < 22;decide)) := hd3.h8.cell 1
 have f := hd3.h8.frozen 1
 have hd4 := hd3.put (i := 1) (u := .int .i64 (n : Int)) (x' := { m with ep := (n : Int) }) HO.out rfl
 obtain ⟨W5,hst5,h65,hrd5,hk5,-⟩ := hd4.fin HO.out
 have hl4 := run_loadMsg_has _ l8 _ hd4.h8
 have hx := HX.out.kept hk5 (fun k hk => by have := HB.out;omega)
 have hend := HFIN.out W5 { m with ep := (n : Int) } rfl hrd5 ⟨hx.m,hx.mc,hx.mn,hx.ml,hx.o,hx.oc,hx.on,hx.e,hx.ec,hx.en,hx.el,hx.eo,hx.s,hx.sl,hx.so,hx.p,hx.pc,hx.pn,hx.pl,hx.t,hx.s0,hx.pm⟩ hk5 (fun k hk => .inl hk) ⟨.inr ⟨rfl,rfl,rfl⟩,.inr ⟨rfl,rfl,rfl⟩,.inr ⟨rfl,rfl,rfl⟩⟩
 have HEND := hZ0 hend;have H65 := hZ0 (run_loadMsg_has _ _ _ h65)
 obtain ⟨cs,hcs⟩ : ∃ cs,(xcell { m with ep := (n : Int) }).toArray = cs := ⟨_,rfl⟩
 unfold xagg at HEND
 rw [hcs] at hst5 hl4 H65 HEND
 clear hr hd3 hk3 hd4 hrd5 hk5 hx hend h65 hcs HFIN HX HD HRD
 go_wp2_with fail
 refine bodyPost_ret (results_row_tmp rfl _ _ b6 _ rfl H65.out) rfl ?_
 exact HEND.out
theorem rd_115 {B : Nat} (h : DdAt w g s r) (hs : s.size <= maxLen) (m : MsgR) (hx : XAt w B m) (hB : g < B) : Calls Tryz.prog 38 #[.pointer (some ⟨g,0,none⟩),xagg m,.int .u8 115] w (RdE w s g B 115 m r) := by
 obtain ⟨W0,W1,Wz,W8,hW0,hW1,hWz,hl,hst,hd,ho⟩ := Dm.start h m
 have hrd := dnum_any W8 g s r 1073741824 hd.rd hs (by decide)
 have hp : readP s 115 (strip m) r = ({ strip m with ser := ((rNum s 1073741824 r).1 : Int) },(rNum s 1073741824 r).2,(rNum s 1073741824 r).2.2) := rfl
 have hfin : ∀ W x,strip x = { strip m with ser := ((rNum s 1073741824 r).1 : Int) } -> DdAt W g s (rNum s 1073741824 r).2 -> XAt W B x -> Kept (fun k => k = g) w W -> (∀ k,rowB x k -> rowB m k \/ w.heap.size <= k) -> keepL 115 m x -> RdE w s g B 115 m r (.returned (.tuple #[xagg x,.int .i64 0])) W := fun W x a b c d f f2 => RdE.simple (by rw [hp];exact a) (by rw [hp]) (by rw [hp];exact b) c d f f2
 generalize RdE w s g B 115 m r = Q at hfin ⊢
 obtain ⟨q,hq⟩ : ∃ q,rNum s 1073741824 r = q := ⟨_,rfl⟩
 rw [hq] at hrd hfin
 obtain ⟨n,r2⟩ := q
 dsimp only at hrd hfin
 obtain ⟨b4,hb4⟩ : ∃ b,w.heap.size = b := ⟨_,rfl⟩
 obtain ⟨b6,hb6⟩ : ∃ b,W0.heap.size = b := ⟨_,rfl⟩
 obtain ⟨l8,hb8⟩ : ∃ b,W1.heap.size = b := ⟨_,rfl⟩
 rw [hb4] at hl
 rw [hb8] at hst
 rw [hb4,hb6,hb8] at hd ho
 have HRD := hZ0 hrd;have HFIN := hZ0 hfin;have HD := hZ0 hd;have HO := hZ0 ho;have HX := hZ0 hx;have HB := hZ0 hB
 obtain ⟨cs,hcs⟩ : ∃ cs,(xcell m).toArray = cs := ⟨_,rfl⟩
 unfold xagg
 rw [hcs] at hW0 hl hst ⊢
 clear hrd hfin hd ho hx hB hq hp h hcs
 go_enter Tryz.func38,Tryz.ntmps38
 go_wp2_with fail
 clear hW0 hW1 hWz hl hst hb4 hb6 hb8
 refine HRD.out.mono ?_
 intro e w3 hr
 obtain ⟨rfl,hd3,hk3⟩ := HD.out.read HO.out hr
 have q : w3.cell? ⟨l8,3,none⟩ = some ((xcell m)[3]'(by show 3 < 22;decide)) := hd3.h8.cell 3
 have f := hd3.h8.frozen 3
 have hd4 := hd3.put (i := 3) (u := .int .i64 (n : Int)) (x' := { m with ser := (n : Int) }) HO.out rfl
 obtain ⟨W5,hst5,h65,hrd5,hk5,-⟩ := hd4.fin HO.out
 have hl4 := run_loadMsg_has _ l8 _ hd4.h8
 have hx := HX.out.kept hk5 (fun k hk => by have := HB.out;omega)
 have hend := HFIN.out W5 { m with ser := (n : Int) } rfl hrd5 ⟨hx.m,hx.mc,hx.mn,hx.ml,hx.o,hx.oc,hx.on,hx.e,hx.ec,hx.en,hx.el,hx.eo,hx.s,hx.sl,hx.so,hx.p,hx.pc,hx.pn,hx.pl,hx.t,hx.s0,hx.pm⟩ hk5 (fun k hk => .inl hk) ⟨.inr ⟨rfl,rfl,rfl⟩,.inr ⟨rfl,rfl,rfl⟩,.inr ⟨rfl,rfl,rfl⟩⟩
 have HEND := hZ0 hend;have H65 := hZ0 (run_loadMsg_has _ _ _ h65)
 obtain ⟨cs,hcs⟩ : ∃ cs,(xcell { m with ser := (n : Int) }).toArray = cs := ⟨_,rfl⟩
 unfold xagg at HEND
 rw [hcs] at hst5 hl4 H65 HEND
 clear hr hd3 hk3 hd4 hrd5 hk5 hx hend h65 hcs HFIN HX HD HRD
 go_wp2_with fail
 refine bodyPost_ret (results_row_tmp rfl _ _ b6 _ rfl H65.out) rfl ?_
 exact HEND.out
theorem rd_114 {B : Nat} (h : DdAt w g s r) (hs : s.size <= maxLen) (m : MsgR) (hx : XAt w B m) (hB : g < B) : Calls Tryz.prog 38 #[.pointer (some ⟨g,0,none⟩),xagg m,.int .u8 114] w (RdE w s g B 114 m r) := by
 obtain ⟨W0,W1,Wz,W8,hW0,hW1,hWz,hl,hst,hd,ho⟩ := Dm.start h m
 have hrd := dnum_any W8 g s r 1073741824 hd.rd hs (by decide)
 have hp : readP s 114 (strip m) r = ({ strip m with req := ((rNum s 1073741824 r).1 : Int) },(rNum s 1073741824 r).2,(rNum s 1073741824 r).2.2) := rfl
 have hfin : ∀ W x,strip x = { strip m with req := ((rNum s 1073741824 r).1 : Int) } -> DdAt W g s (rNum s 1073741824 r).2 -> XAt W B x -> Kept (fun k => k = g) w W -> (∀ k,rowB x k -> rowB m k \/ w.heap.size <= k) -> keepL 114 m x -> RdE w s g B 114 m r (.returned (.tuple #[xagg x,.int .i64 0])) W := fun W x a b c d f f2 => RdE.simple (by rw [hp];exact a) (by rw [hp]) (by rw [hp];exact b) c d f f2
 generalize RdE w s g B 114 m r = Q at hfin ⊢
 obtain ⟨q,hq⟩ : ∃ q,rNum s 1073741824 r = q := ⟨_,rfl⟩
 rw [hq] at hrd hfin
 obtain ⟨n,r2⟩ := q
 dsimp only at hrd hfin
 obtain ⟨b4,hb4⟩ : ∃ b,w.heap.size = b := ⟨_,rfl⟩
 obtain ⟨b6,hb6⟩ : ∃ b,W0.heap.size = b := ⟨_,rfl⟩
 obtain ⟨l8,hb8⟩ : ∃ b,W1.heap.size = b := ⟨_,rfl⟩
 rw [hb4] at hl
 rw [hb8] at hst
 rw [hb4,hb6,hb8] at hd ho
 have HRD := hZ0 hrd;have HFIN := hZ0 hfin;have HD := hZ0 hd;have HO := hZ0 ho;have HX := hZ0 hx;have HB := hZ0 hB
 obtain ⟨cs,hcs⟩ : ∃ cs,(xcell m).toArray = cs := ⟨_,rfl⟩
 unfold xagg
 rw [hcs] at hW0 hl hst ⊢
 clear hrd hfin hd ho hx hB hq hp h hcs
 go_enter Tryz.func38,Tryz.ntmps38
 go_wp2_with fail
 clear hW0 hW1 hWz hl hst hb4 hb6 hb8
 refine HRD.out.mono ?_
 intro e w3 hr
 obtain ⟨rfl,hd3,hk3⟩ := HD.out.read HO.out hr
 have q : w3.cell? ⟨l8,2,none⟩ = some ((xcell m)[2]'(by show 2 < 22;decide)) := hd3.h8.cell 2
 have f := hd3.h8.frozen 2
 have hd4 := hd3.put (i := 2) (u := .int .i64 (n : Int)) (x' := { m with req := (n : Int) }) HO.out rfl
 obtain ⟨W5,hst5,h65,hrd5,hk5,-⟩ := hd4.fin HO.out
 have hl4 := run_loadMsg_has _ l8 _ hd4.h8
 have hx := HX.out.kept hk5 (fun k hk => by have := HB.out;omega)
 have hend := HFIN.out W5 { m with req := (n : Int) } rfl hrd5 ⟨hx.m,hx.mc,hx.mn,hx.ml,hx.o,hx.oc,hx.on,hx.e,hx.ec,hx.en,hx.el,hx.eo,hx.s,hx.sl,hx.so,hx.p,hx.pc,hx.pn,hx.pl,hx.t,hx.s0,hx.pm⟩ hk5 (fun k hk => .inl hk) ⟨.inr ⟨rfl,rfl,rfl⟩,.inr ⟨rfl,rfl,rfl⟩,.inr ⟨rfl,rfl,rfl⟩⟩
 have HEND := hZ0 hend;have H65 := hZ0 (run_loadMsg_has _ _ _ h65)
 obtain ⟨cs,hcs⟩ : ∃ cs,(xcell { m with req := (n : Int) }).toArray = cs := ⟨_,rfl⟩
 unfold xagg at HEND
 rw [hcs] at hst5 hl4 H65 HEND
 clear hr hd3 hk3 hd4 hrd5 hk5 hx hend h65 hcs HFIN HX HD HRD
 go_wp2_with fail
 refine bodyPost_ret (results_row_tmp rfl _ _ b6 _ rfl H65.out) rfl ?_
 exact HEND.out
theorem rd_110 {B : Nat} (h : DdAt w g s r) (hs : s.size <= maxLen) (m : MsgR) (hx : XAt w B m) (hB : g < B) : Calls Tryz.prog 38 #[.pointer (some ⟨g,0,none⟩),xagg m,.int .u8 110] w (RdE w s g B 110 m r) := by
 obtain ⟨W0,W1,Wz,W8,hW0,hW1,hWz,hl,hst,hd,ho⟩ := Dm.start h m
 have hrd := dnum_any W8 g s r 1073741824 hd.rd hs (by decide)
 have hp : readP s 110 (strip m) r = ({ strip m with n := ((rNum s 1073741824 r).1 : Int) },(rNum s 1073741824 r).2,(rNum s 1073741824 r).2.2) := rfl
 have hfin : ∀ W x,strip x = { strip m with n := ((rNum s 1073741824 r).1 : Int) } -> DdAt W g s (rNum s 1073741824 r).2 -> XAt W B x -> Kept (fun k => k = g) w W -> (∀ k,rowB x k -> rowB m k \/ w.heap.size <= k) -> keepL 110 m x -> RdE w s g B 110 m r (.returned (.tuple #[xagg x,.int .i64 0])) W := fun W x a b c d f f2 => RdE.simple (by rw [hp];exact a) (by rw [hp]) (by rw [hp];exact b) c d f f2
 generalize RdE w s g B 110 m r = Q at hfin ⊢
 obtain ⟨q,hq⟩ : ∃ q,rNum s 1073741824 r = q := ⟨_,rfl⟩
 rw [hq] at hrd hfin
 obtain ⟨n,r2⟩ := q
 dsimp only at hrd hfin
 obtain ⟨b4,hb4⟩ : ∃ b,w.heap.size = b := ⟨_,rfl⟩
 obtain ⟨b6,hb6⟩ : ∃ b,W0.heap.size = b := ⟨_,rfl⟩
 obtain ⟨l8,hb8⟩ : ∃ b,W1.heap.size = b := ⟨_,rfl⟩
 rw [hb4] at hl
 rw [hb8] at hst
 rw [hb4,hb6,hb8] at hd ho
 have HRD := hZ0 hrd;have HFIN := hZ0 hfin;have HD := hZ0 hd;have HO := hZ0 ho;have HX := hZ0 hx;have HB := hZ0 hB
 obtain ⟨cs,hcs⟩ : ∃ cs,(xcell m).toArray = cs := ⟨_,rfl⟩
 unfold xagg
 rw [hcs] at hW0 hl hst ⊢
 clear hrd hfin hd ho hx hB hq hp h hcs
 go_enter Tryz.func38,Tryz.ntmps38
 go_wp2_with fail
 clear hW0 hW1 hWz hl hst hb4 hb6 hb8
 refine HRD.out.mono ?_
 intro e w3 hr
 obtain ⟨rfl,hd3,hk3⟩ := HD.out.read HO.out hr
 have q : w3.cell? ⟨l8,7,none⟩ = some ((xcell m)[7]'(by show 7 < 22;decide)) := hd3.h8.cell 7
 have f := hd3.h8.frozen 7
 have hd4 := hd3.put (i := 7) (u := .int .i64 (n : Int)) (x' := { m with n := (n : Int) }) HO.out rfl
 obtain ⟨W5,hst5,h65,hrd5,hk5,-⟩ := hd4.fin HO.out
 have hl4 := run_loadMsg_has _ l8 _ hd4.h8
 have hx := HX.out.kept hk5 (fun k hk => by have := HB.out;omega)
 have hend := HFIN.out W5 { m with n := (n : Int) } rfl hrd5 ⟨hx.m,hx.mc,hx.mn,hx.ml,hx.o,hx.oc,hx.on,hx.e,hx.ec,hx.en,hx.el,hx.eo,hx.s,hx.sl,hx.so,hx.p,hx.pc,hx.pn,hx.pl,hx.t,hx.s0,hx.pm⟩ hk5 (fun k hk => .inl hk) ⟨.inr ⟨rfl,rfl,rfl⟩,.inr ⟨rfl,rfl,rfl⟩,.inr ⟨rfl,rfl,rfl⟩⟩
 have HEND := hZ0 hend;have H65 := hZ0 (run_loadMsg_has _ _ _ h65)
 obtain ⟨cs,hcs⟩ : ∃ cs,(xcell { m with n := (n : Int) }).toArray = cs := ⟨_,rfl⟩
 unfold xagg at HEND
 rw [hcs] at hst5 hl4 H65 HEND
 clear hr hd3 hk3 hd4 hrd5 hk5 hx hend h65 hcs HFIN HX HD HRD
 go_wp2_with fail
 refine bodyPost_ret (results_row_tmp rfl _ _ b6 _ rfl H65.out) rfl ?_
 exact HEND.out
theorem rd_109 {B : Nat} (h : DdAt w g s r) (hs : s.size <= maxLen) (m : MsgR) (hx : XAt w B m) (hB : g < B) : Calls Tryz.prog 38 #[.pointer (some ⟨g,0,none⟩),xagg m,.int .u8 109] w (RdE w s g B 109 m r) := by
 obtain ⟨W0,W1,Wz,W8,hW0,hW1,hWz,hl,hst,hd,ho⟩ := Dm.start h m
 have hrd := dnum_any W8 g s r 1073741824 hd.rd hs (by decide)
 have hp : readP s 109 (strip m) r = ({ strip m with m := ((rNum s 1073741824 r).1 : Int) },(rNum s 1073741824 r).2,(rNum s 1073741824 r).2.2) := rfl
 have hfin : ∀ W x,strip x = { strip m with m := ((rNum s 1073741824 r).1 : Int) } -> DdAt W g s (rNum s 1073741824 r).2 -> XAt W B x -> Kept (fun k => k = g) w W -> (∀ k,rowB x k -> rowB m k \/ w.heap.size <= k) -> keepL 109 m x -> RdE w s g B 109 m r (.returned (.tuple #[xagg x,.int .i64 0])) W := fun W x a b c d f f2 => RdE.simple (by rw [hp];exact a) (by rw [hp]) (by rw [hp];exact b) c d f f2
 generalize RdE w s g B 109 m r = Q at hfin ⊢
 obtain ⟨q,hq⟩ : ∃ q,rNum s 1073741824 r = q := ⟨_,rfl⟩
 rw [hq] at hrd hfin
 obtain ⟨n,r2⟩ := q
 dsimp only at hrd hfin
 obtain ⟨b4,hb4⟩ : ∃ b,w.heap.size = b := ⟨_,rfl⟩
 obtain ⟨b6,hb6⟩ : ∃ b,W0.heap.size = b := ⟨_,rfl⟩
 obtain ⟨l8,hb8⟩ : ∃ b,W1.heap.size = b := ⟨_,rfl⟩
 rw [hb4] at hl
 rw [hb8] at hst
 rw [hb4,hb6,hb8] at hd ho
 have HRD := hZ0 hrd;have HFIN := hZ0 hfin;have HD := hZ0 hd;have HO := hZ0 ho;have HX := hZ0 hx;have HB := hZ0 hB
 obtain ⟨cs,hcs⟩ : ∃ cs,(xcell m).toArray = cs := ⟨_,rfl⟩
 unfold xagg
 rw [hcs] at hW0 hl hst ⊢
 clear hrd hfin hd ho hx hB hq hp h hcs
 go_enter Tryz.func38,Tryz.ntmps38
 go_wp2_with fail
 clear hW0 hW1 hWz hl hst hb4 hb6 hb8
 refine HRD.out.mono ?_
 intro e w3 hr
 obtain ⟨rfl,hd3,hk3⟩ := HD.out.read HO.out hr
 have q : w3.cell? ⟨l8,8,none⟩ = some ((xcell m)[8]'(by show 8 < 22;decide)) := hd3.h8.cell 8
 have f := hd3.h8.frozen 8
 have hd4 := hd3.put (i := 8) (u := .int .i64 (n : Int)) (x' := { m with m := (n : Int) }) HO.out rfl
 obtain ⟨W5,hst5,h65,hrd5,hk5,-⟩ := hd4.fin HO.out
 have hl4 := run_loadMsg_has _ l8 _ hd4.h8
 have hx := HX.out.kept hk5 (fun k hk => by have := HB.out;omega)
 have hend := HFIN.out W5 { m with m := (n : Int) } rfl hrd5 ⟨hx.m,hx.mc,hx.mn,hx.ml,hx.o,hx.oc,hx.on,hx.e,hx.ec,hx.en,hx.el,hx.eo,hx.s,hx.sl,hx.so,hx.p,hx.pc,hx.pn,hx.pl,hx.t,hx.s0,hx.pm⟩ hk5 (fun k hk => .inl hk) ⟨.inr ⟨rfl,rfl,rfl⟩,.inr ⟨rfl,rfl,rfl⟩,.inr ⟨rfl,rfl,rfl⟩⟩
 have HEND := hZ0 hend;have H65 := hZ0 (run_loadMsg_has _ _ _ h65)
 obtain ⟨cs,hcs⟩ : ∃ cs,(xcell { m with m := (n : Int) }).toArray = cs := ⟨_,rfl⟩
 unfold xagg at HEND
 rw [hcs] at hst5 hl4 H65 HEND
 clear hr hd3 hk3 hd4 hrd5 hk5 hx hend h65 hcs HFIN HX HD HRD
 go_wp2_with fail
 refine bodyPost_ret (results_row_tmp rfl _ _ b6 _ rfl H65.out) rfl ?_
 exact HEND.out
theorem rd_112 {B : Nat} (h : DdAt w g s r) (hs : s.size <= maxLen) (m : MsgR) (hx : XAt w B m) (hB : g < B) : Calls Tryz.prog 38 #[.pointer (some ⟨g,0,none⟩),xagg m,.int .u8 112] w (RdE w s g B 112 m r) := by
 obtain ⟨W0,W1,Wz,W8,hW0,hW1,hWz,hl,hst,hd,ho⟩ := Dm.start h m
 have hrd := dnum_any W8 g s r 1073741824 hd.rd hs (by decide)
 have hp : readP s 112 (strip m) r = ({ strip m with p := ((rNum s 1073741824 r).1 : Int) },(rNum s 1073741824 r).2,(rNum s 1073741824 r).2.2) := rfl
 have hfin : ∀ W x,strip x = { strip m with p := ((rNum s 1073741824 r).1 : Int) } -> DdAt W g s (rNum s 1073741824 r).2 -> XAt W B x -> Kept (fun k => k = g) w W -> (∀ k,rowB x k -> rowB m k \/ w.heap.size <= k) -> keepL 112 m x -> RdE w s g B 112 m r (.returned (.tuple #[xagg x,.int .i64 0])) W := fun W x a b c d f f2 => RdE.simple (by rw [hp];exact a) (by rw [hp]) (by rw [hp];exact b) c d f f2
 generalize RdE w s g B 112 m r = Q at hfin ⊢
 obtain ⟨q,hq⟩ : ∃ q,rNum s 1073741824 r = q := ⟨_,rfl⟩
 rw [hq] at hrd hfin
 obtain ⟨n,r2⟩ := q
 dsimp only at hrd hfin
 obtain ⟨b4,hb4⟩ : ∃ b,w.heap.size = b := ⟨_,rfl⟩
 obtain ⟨b6,hb6⟩ : ∃ b,W0.heap.size = b := ⟨_,rfl⟩
 obtain ⟨l8,hb8⟩ : ∃ b,W1.heap.size = b := ⟨_,rfl⟩
 rw [hb4] at hl
 rw [hb8] at hst
 rw [hb4,hb6,hb8] at hd ho
 have HRD := hZ0 hrd;have HFIN := hZ0 hfin;have HD := hZ0 hd;have HO := hZ0 ho;have HX := hZ0 hx;have HB := hZ0 hB
 obtain ⟨cs,hcs⟩ : ∃ cs,(xcell m).toArray = cs := ⟨_,rfl⟩
 unfold xagg
 rw [hcs] at hW0 hl hst ⊢
 clear hrd hfin hd ho hx hB hq hp h hcs
 go_enter Tryz.func38,Tryz.ntmps38
 go_wp2_with fail
 clear hW0 hW1 hWz hl hst hb4 hb6 hb8
 refine HRD.out.mono ?_
 intro e w3 hr
 obtain ⟨rfl,hd3,hk3⟩ := HD.out.read HO.out hr
 have q : w3.cell? ⟨l8,9,none⟩ = some ((xcell m)[9]'(by show 9 < 22;decide)) := hd3.h8.cell 9
 have f := hd3.h8.frozen 9
 have hd4 := hd3.put (i := 9) (u := .int .i64 (n : Int)) (x' := { m with p := (n : Int) }) HO.out rfl
 obtain ⟨W5,hst5,h65,hrd5,hk5,-⟩ := hd4.fin HO.out
 have hl4 := run_loadMsg_has _ l8 _ hd4.h8
 have hx := HX.out.kept hk5 (fun k hk => by have := HB.out;omega)
 have hend := HFIN.out W5 { m with p := (n : Int) } rfl hrd5 ⟨hx.m,hx.mc,hx.mn,hx.ml,hx.o,hx.oc,hx.on,hx.e,hx.ec,hx.en,hx.el,hx.eo,hx.s,hx.sl,hx.so,hx.p,hx.pc,hx.pn,hx.pl,hx.t,hx.s0,hx.pm⟩ hk5 (fun k hk => .inl hk) ⟨.inr ⟨rfl,rfl,rfl⟩,.inr ⟨rfl,rfl,rfl⟩,.inr ⟨rfl,rfl,rfl⟩⟩
 have HEND := hZ0 hend;have H65 := hZ0 (run_loadMsg_has _ _ _ h65)
 obtain ⟨cs,hcs⟩ : ∃ cs,(xcell { m with p := (n : Int) }).toArray = cs := ⟨_,rfl⟩
 unfold xagg at HEND
 rw [hcs] at hst5 hl4 H65 HEND
 clear hr hd3 hk3 hd4 hrd5 hk5 hx hend h65 hcs HFIN HX HD HRD
 go_wp2_with fail
 refine bodyPost_ret (results_row_tmp rfl _ _ b6 _ rfl H65.out) rfl ?_
 exact HEND.out
theorem rd_120 {B : Nat} (h : DdAt w g s r) (hs : s.size <= maxLen) (m : MsgR) (hx : XAt w B m) (hB : g < B) : Calls Tryz.prog 38 #[.pointer (some ⟨g,0,none⟩),xagg m,.int .u8 120] w (RdE w s g B 120 m r) := by
 obtain ⟨W0,W1,Wz,W8,hW0,hW1,hWz,hl,hst,hd,ho⟩ := Dm.start h m
 have hrd := dnum_any W8 g s r 21 hd.rd hs (by decide)
 have hp : readP s 120 (strip m) r = ({ strip m with e := ((rNum s 21 r).1 : Int) },(rNum s 21 r).2,(rNum s 21 r).2.2) := rfl
 have hfin : ∀ W x,strip x = { strip m with e := ((rNum s 21 r).1 : Int) } -> DdAt W g s (rNum s 21 r).2 -> XAt W B x -> Kept (fun k => k = g) w W -> (∀ k,rowB x k -> rowB m k \/ w.heap.size <= k) -> keepL 120 m x -> RdE w s g B 120 m r (.returned (.tuple #[xagg x,.int .i64 0])) W := fun W x a b c d f f2 => RdE.simple (by rw [hp];exact a) (by rw [hp]) (by rw [hp];exact b) c d f f2
 generalize RdE w s g B 120 m r = Q at hfin ⊢
 obtain ⟨q,hq⟩ : ∃ q,rNum s 21 r = q := ⟨_,rfl⟩
 rw [hq] at hrd hfin
 obtain ⟨n,r2⟩ := q
 dsimp only at hrd hfin
 obtain ⟨b4,hb4⟩ : ∃ b,w.heap.size = b := ⟨_,rfl⟩
 obtain ⟨b6,hb6⟩ : ∃ b,W0.heap.size = b := ⟨_,rfl⟩
 obtain ⟨l8,hb8⟩ : ∃ b,W1.heap.size = b := ⟨_,rfl⟩
 rw [hb4] at hl
 rw [hb8] at hst
 rw [hb4,hb6,hb8] at hd ho
 have HRD := hZ0 hrd;have HFIN := hZ0 hfin;have HD := hZ0 hd;have HO := hZ0 ho;have HX := hZ0 hx;have HB := hZ0 hB
 obtain ⟨cs,hcs⟩ : ∃ cs,(xcell m).toArray = cs := ⟨_,rfl⟩
 unfold xagg
 rw [hcs] at hW0 hl hst ⊢
 clear hrd hfin hd ho hx hB hq hp h hcs
 go_enter Tryz.func38,Tryz.ntmps38
 go_wp2_with fail
 clear hW0 hW1 hWz hl hst hb4 hb6 hb8
 refine HRD.out.mono ?_
 intro e w3 hr
 obtain ⟨rfl,hd3,hk3⟩ := HD.out.read HO.out hr
 have q : w3.cell? ⟨l8,10,none⟩ = some ((xcell m)[10]'(by show 10 < 22;decide)) := hd3.h8.cell 10
 have f := hd3.h8.frozen 10
 have hd4 := hd3.put (i := 10) (u := .int .i64 (n : Int)) (x' := { m with e := (n : Int) }) HO.out rfl
 obtain ⟨W5,hst5,h65,hrd5,hk5,-⟩ := hd4.fin HO.out
 have hl4 := run_loadMsg_has _ l8 _ hd4.h8
 have hx := HX.out.kept hk5 (fun k hk => by have := HB.out;omega)
 have hend := HFIN.out W5 { m with e := (n : Int) } rfl hrd5 ⟨hx.m,hx.mc,hx.mn,hx.ml,hx.o,hx.oc,hx.on,hx.e,hx.ec,hx.en,hx.el,hx.eo,hx.s,hx.sl,hx.so,hx.p,hx.pc,hx.pn,hx.pl,hx.t,hx.s0,hx.pm⟩ hk5 (fun k hk => .inl hk) ⟨.inr ⟨rfl,rfl,rfl⟩,.inr ⟨rfl,rfl,rfl⟩,.inr ⟨rfl,rfl,rfl⟩⟩
 have HEND := hZ0 hend;have H65 := hZ0 (run_loadMsg_has _ _ _ h65)
 obtain ⟨cs,hcs⟩ : ∃ cs,(xcell { m with e := (n : Int) }).toArray = cs := ⟨_,rfl⟩
 unfold xagg at HEND
 rw [hcs] at hst5 hl4 H65 HEND
 clear hr hd3 hk3 hd4 hrd5 hk5 hx hend h65 hcs HFIN HX HD HRD
 go_wp2_with fail
 refine bodyPost_ret (results_row_tmp rfl _ _ b6 _ rfl H65.out) rfl ?_
 exact HEND.out
theorem rd_97 {B : Nat} (h : DdAt w g s r) (hs : s.size <= maxLen) (m : MsgR) (hx : XAt w B m) (hB : g < B) : Calls Tryz.prog 38 #[.pointer (some ⟨g,0,none⟩),xagg m,.int .u8 97] w (RdE w s g B 97 m r) := by
 obtain ⟨W0,W1,Wz,W8,hW0,hW1,hWz,hl,hst,hd,ho⟩ := Dm.start h m
 have hrd := dbig_any W8 g s r hd.rd hs
 have hts := big_ts s r
 have hp : readP s 97 (strip m) r = ({ strip m with at' := ((rBig s r).1 : Int) },(rBig s r).2,(rBig s r).2.2) := rfl
 have hfin : ∀ W x,strip x = { strip m with at' := ((rBig s r).1 : Int) } -> DdAt W g s (rBig s r).2 -> XAt W B x -> Kept (fun k => k = g) w W -> (∀ k,rowB x k -> rowB m k \/ w.heap.size <= k) -> keepL 97 m x -> RdE w s g B 97 m r (.returned (.tuple #[xagg x,.int .i64 0])) W := fun W x a b c d f f2 => RdE.simple (by rw [hp];exact a) (by rw [hp]) (by rw [hp];exact b) c d f f2
 generalize RdE w s g B 97 m r = Q at hfin ⊢
 obtain ⟨q,hq⟩ : ∃ q,rBig s r = q := ⟨_,rfl⟩
 rw [hq] at hrd hfin hts
 obtain ⟨n,r2⟩ := q
 dsimp only at hrd hfin hts
 obtain ⟨b4,hb4⟩ : ∃ b,w.heap.size = b := ⟨_,rfl⟩
 obtain ⟨b6,hb6⟩ : ∃ b,W0.heap.size = b := ⟨_,rfl⟩
 obtain ⟨l8,hb8⟩ : ∃ b,W1.heap.size = b := ⟨_,rfl⟩
 rw [hb4] at hl
 rw [hb8] at hst
 rw [hb4,hb6,hb8] at hd ho
 have HRD := hZ0 hrd;have HFIN := hZ0 hfin;have HD := hZ0 hd;have HO := hZ0 ho;have HX := hZ0 hx;have HB := hZ0 hB;have HTS := hZ0 hts
 obtain ⟨cs,hcs⟩ : ∃ cs,(xcell m).toArray = cs := ⟨_,rfl⟩
 unfold xagg
 rw [hcs] at hW0 hl hst ⊢
 clear hrd hfin hd ho hx hB hq hp h hcs hts
 go_enter Tryz.func38,Tryz.ntmps38
 go_wp2_with fail
 clear hW0 hW1 hWz hl hst hb4 hb6 hb8
 refine HRD.out.mono ?_
 intro e w3 hr
 obtain ⟨rfl,hd3,hk3⟩ := HD.out.read HO.out hr
 have q : w3.cell? ⟨l8,5,none⟩ = some ((xcell m)[5]'(by show 5 < 22;decide)) := hd3.h8.cell 5
 have f := hd3.h8.frozen 5
 have hd4 := hd3.put (i := 5) (u := .int .u64 (n : Int)) (x' := { m with at' := (n : Int) }) HO.out rfl
 obtain ⟨W5,hst5,h65,hrd5,hk5,-⟩ := hd4.fin HO.out
 have hl4 := run_loadMsg_has _ l8 _ hd4.h8
 have hx := HX.out.kept hk5 (fun k hk => by have := HB.out;omega)
 have hend := HFIN.out W5 { m with at' := (n : Int) } rfl hrd5 ⟨hx.m,hx.mc,hx.mn,hx.ml,hx.o,hx.oc,hx.on,hx.e,hx.ec,hx.en,hx.el,hx.eo,hx.s,hx.sl,hx.so,hx.p,hx.pc,hx.pn,hx.pl,⟨HTS.out,hx.t.2.1,hx.t.2.2⟩,hx.s0,hx.pm⟩ hk5 (fun k hk => .inl hk) ⟨.inr ⟨rfl,rfl,rfl⟩,.inr ⟨rfl,rfl,rfl⟩,.inr ⟨rfl,rfl,rfl⟩⟩
 have HEND := hZ0 hend;have H65 := hZ0 (run_loadMsg_has _ _ _ h65)
 obtain ⟨cs,hcs⟩ : ∃ cs,(xcell { m with at' := (n : Int) }).toArray = cs := ⟨_,rfl⟩
 unfold xagg at HEND
 rw [hcs] at hst5 hl4 H65 HEND
 clear hr hd3 hk3 hd4 hrd5 hk5 hx hend h65 hcs HFIN HX HD HRD
 go_wp2_with fail
 refine bodyPost_ret (results_row_tmp rfl _ _ b6 _ rfl H65.out) rfl ?_
 exact HEND.out
theorem rd_108 {B : Nat} (h : DdAt w g s r) (hs : s.size <= maxLen) (m : MsgR) (hx : XAt w B m) (hB : g < B) : Calls Tryz.prog 38 #[.pointer (some ⟨g,0,none⟩),xagg m,.int .u8 108] w (RdE w s g B 108 m r) := by
 obtain ⟨W0,W1,Wz,W8,hW0,hW1,hWz,hl,hst,hd,ho⟩ := Dm.start h m
 have hrd := dbig_any W8 g s r hd.rd hs
 have hts := big_ts s r
 have hp : readP s 108 (strip m) r = ({ strip m with last := ((rBig s r).1 : Int) },(rBig s r).2,(rBig s r).2.2) := rfl
 have hfin : ∀ W x,strip x = { strip m with last := ((rBig s r).1 : Int) } -> DdAt W g s (rBig s r).2 -> XAt W B x -> Kept (fun k => k = g) w W -> (∀ k,rowB x k -> rowB m k \/ w.heap.size <= k) -> keepL 108 m x -> RdE w s g B 108 m r (.returned (.tuple #[xagg x,.int .i64 0])) W := fun W x a b c d f f2 => RdE.simple (by rw [hp];exact a) (by rw [hp]) (by rw [hp];exact b) c d f f2
 generalize RdE w s g B 108 m r = Q at hfin ⊢
 obtain ⟨q,hq⟩ : ∃ q,rBig s r = q := ⟨_,rfl⟩
 rw [hq] at hrd hfin hts
 obtain ⟨n,r2⟩ := q
 dsimp only at hrd hfin hts
 obtain ⟨b4,hb4⟩ : ∃ b,w.heap.size = b := ⟨_,rfl⟩
 obtain ⟨b6,hb6⟩ : ∃ b,W0.heap.size = b := ⟨_,rfl⟩
 obtain ⟨l8,hb8⟩ : ∃ b,W1.heap.size = b := ⟨_,rfl⟩
 rw [hb4] at hl
 rw [hb8] at hst
 rw [hb4,hb6,hb8] at hd ho
 have HRD := hZ0 hrd;have HFIN := hZ0 hfin;have HD := hZ0 hd;have HO := hZ0 ho;have HX := hZ0 hx;have HB := hZ0 hB;have HTS := hZ0 hts
 obtain ⟨cs,hcs⟩ : ∃ cs,(xcell m).toArray = cs := ⟨_,rfl⟩
 unfold xagg
 rw [hcs] at hW0 hl hst ⊢
 clear hrd hfin hd ho hx hB hq hp h hcs hts
 go_enter Tryz.func38,Tryz.ntmps38
 go_wp2_with fail
 clear hW0 hW1 hWz hl hst hb4 hb6 hb8
 refine HRD.out.mono ?_
 intro e w3 hr
 obtain ⟨rfl,hd3,hk3⟩ := HD.out.read HO.out hr
 have q : w3.cell? ⟨l8,6,none⟩ = some ((xcell m)[6]'(by show 6 < 22;decide)) := hd3.h8.cell 6
 have f := hd3.h8.frozen 6
 have hd4 := hd3.put (i := 6) (u := .int .u64 (n : Int)) (x' := { m with last := (n : Int) }) HO.out rfl
 obtain ⟨W5,hst5,h65,hrd5,hk5,-⟩ := hd4.fin HO.out
 have hl4 := run_loadMsg_has _ l8 _ hd4.h8
 have hx := HX.out.kept hk5 (fun k hk => by have := HB.out;omega)
 have hend := HFIN.out W5 { m with last := (n : Int) } rfl hrd5 ⟨hx.m,hx.mc,hx.mn,hx.ml,hx.o,hx.oc,hx.on,hx.e,hx.ec,hx.en,hx.el,hx.eo,hx.s,hx.sl,hx.so,hx.p,hx.pc,hx.pn,hx.pl,⟨hx.t.1,HTS.out,hx.t.2.2⟩,hx.s0,hx.pm⟩ hk5 (fun k hk => .inl hk) ⟨.inr ⟨rfl,rfl,rfl⟩,.inr ⟨rfl,rfl,rfl⟩,.inr ⟨rfl,rfl,rfl⟩⟩
 have HEND := hZ0 hend;have H65 := hZ0 (run_loadMsg_has _ _ _ h65)
 obtain ⟨cs,hcs⟩ : ∃ cs,(xcell { m with last := (n : Int) }).toArray = cs := ⟨_,rfl⟩
 unfold xagg at HEND
 rw [hcs] at hst5 hl4 H65 HEND
 clear hr hd3 hk3 hd4 hrd5 hk5 hx hend h65 hcs HFIN HX HD HRD
 go_wp2_with fail
 refine bodyPost_ret (results_row_tmp rfl _ _ b6 _ rfl H65.out) rfl ?_
 exact HEND.out
theorem rd_102 {B : Nat} (h : DdAt w g s r) (hs : s.size <= maxLen) (m : MsgR) (hx : XAt w B m) (hB : g < B) : Calls Tryz.prog 38 #[.pointer (some ⟨g,0,none⟩),xagg m,.int .u8 102] w (RdE w s g B 102 m r) := by
 obtain ⟨W0,W1,Wz,W8,hW0,hW1,hWz,hl,hst,hd,ho⟩ := Dm.start h m
 have hrd := dflag_any W8 g s r hd.rd hs
 have hp : readP s 102 (strip m) r = ({ strip m with fl := (rFlag s r).1 },(rFlag s r).2,(rFlag s r).2.2) := rfl
 have hfin : ∀ W x,strip x = { strip m with fl := (rFlag s r).1 } -> DdAt W g s (rFlag s r).2 -> XAt W B x -> Kept (fun k => k = g) w W -> (∀ k,rowB x k -> rowB m k \/ w.heap.size <= k) -> keepL 102 m x -> RdE w s g B 102 m r (.returned (.tuple #[xagg x,.int .i64 0])) W := fun W x a b c d f f2 => RdE.simple (by rw [hp];exact a) (by rw [hp]) (by rw [hp];exact b) c d f f2
 generalize RdE w s g B 102 m r = Q at hfin ⊢
 obtain ⟨q,hq⟩ : ∃ q,rFlag s r = q := ⟨_,rfl⟩
 rw [hq] at hrd hfin
 obtain ⟨n,r2⟩ := q
 dsimp only at hrd hfin
 obtain ⟨b4,hb4⟩ : ∃ b,w.heap.size = b := ⟨_,rfl⟩
 obtain ⟨b6,hb6⟩ : ∃ b,W0.heap.size = b := ⟨_,rfl⟩
 obtain ⟨l8,hb8⟩ : ∃ b,W1.heap.size = b := ⟨_,rfl⟩
 rw [hb4] at hl
 rw [hb8] at hst
 rw [hb4,hb6,hb8] at hd ho
 have HRD := hZ0 hrd;have HFIN := hZ0 hfin;have HD := hZ0 hd;have HO := hZ0 ho;have HX := hZ0 hx;have HB := hZ0 hB
 obtain ⟨cs,hcs⟩ : ∃ cs,(xcell m).toArray = cs := ⟨_,rfl⟩
 unfold xagg
 rw [hcs] at hW0 hl hst ⊢
 clear hrd hfin hd ho hx hB hq hp h hcs
 go_enter Tryz.func38,Tryz.ntmps38
 go_wp2_with fail
 clear hW0 hW1 hWz hl hst hb4 hb6 hb8
 refine HRD.out.mono ?_
 intro e w3 hr
 obtain ⟨rfl,hd3,hk3⟩ := HD.out.read HO.out hr
 have q : w3.cell? ⟨l8,4,none⟩ = some ((xcell m)[4]'(by show 4 < 22;decide)) := hd3.h8.cell 4
 have f := hd3.h8.frozen 4
 have hd4 := hd3.put (i := 4) (u := .bool n) (x' := { m with fl := n }) HO.out rfl
 obtain ⟨W5,hst5,h65,hrd5,hk5,-⟩ := hd4.fin HO.out
 have hl4 := run_loadMsg_has _ l8 _ hd4.h8
 have hx := HX.out.kept hk5 (fun k hk => by have := HB.out;omega)
 have hend := HFIN.out W5 { m with fl := n } rfl hrd5 ⟨hx.m,hx.mc,hx.mn,hx.ml,hx.o,hx.oc,hx.on,hx.e,hx.ec,hx.en,hx.el,hx.eo,hx.s,hx.sl,hx.so,hx.p,hx.pc,hx.pn,hx.pl,hx.t,hx.s0,hx.pm⟩ hk5 (fun k hk => .inl hk) ⟨.inr ⟨rfl,rfl,rfl⟩,.inr ⟨rfl,rfl,rfl⟩,.inr ⟨rfl,rfl,rfl⟩⟩
 have HEND := hZ0 hend;have H65 := hZ0 (run_loadMsg_has _ _ _ h65)
 obtain ⟨cs,hcs⟩ : ∃ cs,(xcell { m with fl := n }).toArray = cs := ⟨_,rfl⟩
 unfold xagg at HEND
 rw [hcs] at hst5 hl4 H65 HEND
 clear hr hd3 hk3 hd4 hrd5 hk5 hx hend h65 hcs HFIN HX HD HRD
 go_wp2_with fail
 refine bodyPost_ret (results_row_tmp rfl _ _ b6 _ rfl H65.out) rfl ?_
 exact HEND.out
theorem rd_107 {B : Nat} (h : DdAt w g s r) (hs : s.size <= maxLen) (m : MsgR) (hx : XAt w B m) (hB : g < B) : Calls Tryz.prog 38 #[.pointer (some ⟨g,0,none⟩),xagg m,.int .u8 107] w (RdE w s g B 107 m r) := by
 obtain ⟨W0,W1,Wz,W8,hW0,hW1,hWz,hl,hst,hd,ho⟩ := Dm.start h m
 have hrd := dtext_any W8 g s r 8 hd.rd hs (by decide)
 have hp : readP s 107 (strip m) r = ({ strip m with key := (rText s 8 r).1 },(rText s 8 r).2,(rText s 8 r).2.2) := rfl
 have hfin : ∀ W x,strip x = { strip m with key := (rText s 8 r).1 } -> DdAt W g s (rText s 8 r).2 -> XAt W B x -> Kept (fun k => k = g) w W -> (∀ k,rowB x k -> rowB m k \/ w.heap.size <= k) -> keepL 107 m x -> RdE w s g B 107 m r (.returned (.tuple #[xagg x,.int .i64 0])) W := fun W x a b c d f f2 => RdE.simple (by rw [hp];exact a) (by rw [hp]) (by rw [hp];exact b) c d f f2
 generalize RdE w s g B 107 m r = Q at hfin ⊢
 obtain ⟨q,hq⟩ : ∃ q,rText s 8 r = q := ⟨_,rfl⟩
 rw [hq] at hrd hfin
 obtain ⟨n,r2⟩ := q
 dsimp only at hrd hfin
 obtain ⟨b4,hb4⟩ : ∃ b,w.heap.size = b := ⟨_,rfl⟩
 obtain ⟨b6,hb6⟩ : ∃ b,W0.heap.size = b := ⟨_,rfl⟩
 obtain ⟨l8,hb8⟩ : ∃ b,W1.heap.size = b := ⟨_,rfl⟩
 rw [hb4] at hl
 rw [hb8] at hst
 rw [hb4,hb6,hb8] at hd ho
 have HRD := hZ0 hrd;have HFIN := hZ0 hfin;have HD := hZ0 hd;have HO := hZ0 ho;have HX := hZ0 hx;have HB := hZ0 hB
 obtain ⟨cs,hcs⟩ : ∃ cs,(xcell m).toArray = cs := ⟨_,rfl⟩
 unfold xagg
 rw [hcs] at hW0 hl hst ⊢
 clear hrd hfin hd ho hx hB hq hp h hcs
 go_enter Tryz.func38,Tryz.ntmps38
 go_wp2_with fail
 clear hW0 hW1 hWz hl hst hb4 hb6 hb8
 refine HRD.out.mono ?_
 intro e w3 hr
 obtain ⟨rfl,hd3,hk3⟩ := HD.out.read HO.out hr
 have q : w3.cell? ⟨l8,11,none⟩ = some ((xcell m)[11]'(by show 11 < 22;decide)) := hd3.h8.cell 11
 have f := hd3.h8.frozen 11
 have hd4 := hd3.put (i := 11) (u := .string n) (x' := { m with key := n }) HO.out rfl
 obtain ⟨W5,hst5,h65,hrd5,hk5,-⟩ := hd4.fin HO.out
 have hl4 := run_loadMsg_has _ l8 _ hd4.h8
 have hx := HX.out.kept hk5 (fun k hk => by have := HB.out;omega)
 have hend := HFIN.out W5 { m with key := n } rfl hrd5 ⟨hx.m,hx.mc,hx.mn,hx.ml,hx.o,hx.oc,hx.on,hx.e,hx.ec,hx.en,hx.el,hx.eo,hx.s,hx.sl,hx.so,hx.p,hx.pc,hx.pn,hx.pl,hx.t,hx.s0,hx.pm⟩ hk5 (fun k hk => .inl hk) ⟨.inr ⟨rfl,rfl,rfl⟩,.inr ⟨rfl,rfl,rfl⟩,.inr ⟨rfl,rfl,rfl⟩⟩
 have HEND := hZ0 hend;have H65 := hZ0 (run_loadMsg_has _ _ _ h65)
 obtain ⟨cs,hcs⟩ : ∃ cs,(xcell { m with key := n }).toArray = cs := ⟨_,rfl⟩
 unfold xagg at HEND
 rw [hcs] at hst5 hl4 H65 HEND
 clear hr hd3 hk3 hd4 hrd5 hk5 hx hend h65 hcs HFIN HX HD HRD
 go_wp2_with fail
 refine bodyPost_ret (results_row_tmp rfl _ _ b6 _ rfl H65.out) rfl ?_
 exact HEND.out
theorem rd_116 {B : Nat} (h : DdAt w g s r) (hs : s.size <= maxLen) (m : MsgR) (hx : XAt w B m) (hB : g < B) : Calls Tryz.prog 38 #[.pointer (some ⟨g,0,none⟩),xagg m,.int .u8 116] w (RdE w s g B 116 m r) := by
 obtain ⟨W0,W1,Wz,W8,hW0,hW1,hWz,hl,hst,hd,ho⟩ := Dm.start h m
 have hrd := dtext_any W8 g s r 8 hd.rd hs (by decide)
 have hp : readP s 116 (strip m) r = ({ strip m with to := (rText s 8 r).1 },(rText s 8 r).2,(rText s 8 r).2.2) := rfl
 have hfin : ∀ W x,strip x = { strip m with to := (rText s 8 r).1 } -> DdAt W g s (rText s 8 r).2 -> XAt W B x -> Kept (fun k => k = g) w W -> (∀ k,rowB x k -> rowB m k \/ w.heap.size <= k) -> keepL 116 m x -> RdE w s g B 116 m r (.returned (.tuple #[xagg x,.int .i64 0])) W := fun W x a b c d f f2 => RdE.simple (by rw [hp];exact a) (by rw [hp]) (by rw [hp];exact b) c d f f2
 generalize RdE w s g B 116 m r = Q at hfin ⊢
 obtain ⟨q,hq⟩ : ∃ q,rText s 8 r = q := ⟨_,rfl⟩
 rw [hq] at hrd hfin
 obtain ⟨n,r2⟩ := q
 dsimp only at hrd hfin
 obtain ⟨b4,hb4⟩ : ∃ b,w.heap.size = b := ⟨_,rfl⟩
 obtain ⟨b6,hb6⟩ : ∃ b,W0.heap.size = b := ⟨_,rfl⟩
 obtain ⟨l8,hb8⟩ : ∃ b,W1.heap.size = b := ⟨_,rfl⟩
 rw [hb4] at hl
 rw [hb8] at hst
 rw [hb4,hb6,hb8] at hd ho
 have HRD := hZ0 hrd;have HFIN := hZ0 hfin;have HD := hZ0 hd;have HO := hZ0 ho;have HX := hZ0 hx;have HB := hZ0 hB
 obtain ⟨cs,hcs⟩ : ∃ cs,(xcell m).toArray = cs := ⟨_,rfl⟩
 unfold xagg
 rw [hcs] at hW0 hl hst ⊢
 clear hrd hfin hd ho hx hB hq hp h hcs
 go_enter Tryz.func38,Tryz.ntmps38
 go_wp2_with fail
 clear hW0 hW1 hWz hl hst hb4 hb6 hb8
 refine HRD.out.mono ?_
 intro e w3 hr
 obtain ⟨rfl,hd3,hk3⟩ := HD.out.read HO.out hr
 have q : w3.cell? ⟨l8,12,none⟩ = some ((xcell m)[12]'(by show 12 < 22;decide)) := hd3.h8.cell 12
 have f := hd3.h8.frozen 12
 have hd4 := hd3.put (i := 12) (u := .string n) (x' := { m with to := n }) HO.out rfl
 obtain ⟨W5,hst5,h65,hrd5,hk5,-⟩ := hd4.fin HO.out
 have hl4 := run_loadMsg_has _ l8 _ hd4.h8
 have hx := HX.out.kept hk5 (fun k hk => by have := HB.out;omega)
 have hend := HFIN.out W5 { m with to := n } rfl hrd5 ⟨hx.m,hx.mc,hx.mn,hx.ml,hx.o,hx.oc,hx.on,hx.e,hx.ec,hx.en,hx.el,hx.eo,hx.s,hx.sl,hx.so,hx.p,hx.pc,hx.pn,hx.pl,hx.t,hx.s0,hx.pm⟩ hk5 (fun k hk => .inl hk) ⟨.inr ⟨rfl,rfl,rfl⟩,.inr ⟨rfl,rfl,rfl⟩,.inr ⟨rfl,rfl,rfl⟩⟩
 have HEND := hZ0 hend;have H65 := hZ0 (run_loadMsg_has _ _ _ h65)
 obtain ⟨cs,hcs⟩ : ∃ cs,(xcell { m with to := n }).toArray = cs := ⟨_,rfl⟩
 unfold xagg at HEND
 rw [hcs] at hst5 hl4 H65 HEND
 clear hr hd3 hk3 hd4 hrd5 hk5 hx hend h65 hcs HFIN HX HD HRD
 go_wp2_with fail
 refine bodyPost_ret (results_row_tmp rfl _ _ b6 _ rfl H65.out) rfl ?_
 exact HEND.out
end
end Rm
end Go.Proofs.YtgbigpdiacjbgaaGreat

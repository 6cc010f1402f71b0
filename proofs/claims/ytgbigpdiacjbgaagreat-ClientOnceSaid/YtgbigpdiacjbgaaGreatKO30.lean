/- Part 31 of what the proof needs. -/
import Derived.Test.YtgbigpdiacjbgaaGreatKO29
set_option linter.unusedSimpArgs false
set_option linter.unusedVariables false
set_option maxHeartbeats 32000000
set_option maxRecDepth 100000
namespace Go.Proofs.YtgbigpdiacjbgaaGreat
open Go.RowKit
set_option maxRecDepth 100000
namespace Mof
open Plan Ops Ent Vn Msg Cof Wire
def zM : MsgR := ⟨0,0,0,0,false,0,0,0,0,0,0,⟨#[]⟩,⟨#[]⟩,0,none,0,[],0,0,0,none,0,[],none,0,[],none,0,[],none,0,[]⟩
def strip (x : MsgR) : MsgR := { x with mA := none,mc := 0,oA := none,oc := 0,eA := none,ec := 0,es := x.es.map stripE,sA := none,sc := 0,pA := none,pc := 0 }
def setNum (x : MsgR) (c : Nat) (v : Int) : MsgR := if c = 101 then { x with ep := v } else if c = 115 then { x with ser := v } else if c = 114 then { x with req := v } else if c = 110 then { x with n := v } else if c = 109 then { x with m := v } else { x with p := v }
def rStamps (s : ByteArray) : Nat -> RS -> List Int × RS
 | 0,r => ([],r)
 | k + 1,r => ((rStamps s k r).1 ++ [((rBig s (rStamps s k r).2).1 : Int)],(rBig s (rStamps s k r).2).2)
theorem rStamps_len (s : ByteArray) (r : RS) : ∀ k,(rStamps s k r).1.length = k := by
 intro k
 induction k with
 | zero => rfl
 | succ k ih => rw [rStamps];simp [ih]
def readP (s : ByteArray) (c : Nat) (x : MsgR) (r : RS) : MsgR × RS × Int :=
 if isNum c = true then (setNum x c (rNum s 1073741824 r).1,(rNum s 1073741824 r).2,(rNum s 1073741824 r).2.2)
 else if c = 67 then ({ x with cep := (inC s r).1.ep,ms := (inC s r).1.ms,cfl := (inC s r).1.fl },(rText s 65536 r).2,(inC s r).2)
 else if c = 66 then ({ x with bcl := (inB' s r).1.cl,breq := (inB' s r).1.req,ops := (inB' s r).1.ops },(rText s 65536 r).2,(inB' s r).2)
 else if c = 69 then ({ x with es := (rEnts s (rNum s 4 r).1 (rNum s 4 r).2).1 },(rEnts s (rNum s 4 r).1 (rNum s 4 r).2).2.1,if (rEnts s (rNum s 4 r).1 (rNum s 4 r).2).2.2 ≠ 0 then (rEnts s (rNum s 4 r).1 (rNum s 4 r).2).2.2 else (rEnts s (rNum s 4 r).1 (rNum s 4 r).2).2.1.2)
 else if c = 83 then ({ x with ss := x.ss ++ (rStamps s (rNum s 8 r).1 (rNum s 8 r).2).1 },(rStamps s (rNum s 8 r).1 (rNum s 8 r).2).2,(rStamps s (rNum s 8 r).1 (rNum s 8 r).2).2.2)
 else if c = 82 then ({ x with ps := (rPairs s (rNum s 32 r).1 (rNum s 32 r).2).1 },(rPairs s (rNum s 32 r).1 (rNum s 32 r).2).2,(rPairs s (rNum s 32 r).1 (rNum s 32 r).2).2.2)
 else if c = 120 then ({ x with e := (rNum s 21 r).1 },(rNum s 21 r).2,(rNum s 21 r).2.2)
 else if c = 97 then ({ x with at' := (rBig s r).1 },(rBig s r).2,(rBig s r).2.2)
 else if c = 108 then ({ x with last := (rBig s r).1 },(rBig s r).2,(rBig s r).2.2)
 else if c = 102 then ({ x with fl := (rFlag s r).1 },(rFlag s r).2,(rFlag s r).2.2)
 else if c = 107 then ({ x with key := (rText s 8 r).1 },(rText s 8 r).2,(rText s 8 r).2.2)
 else if c = 116 then ({ x with to := (rText s 8 r).1 },(rText s 8 r).2,(rText s 8 r).2.2)
 else (x,r,r.2)
def readL (s : ByteArray) : List Nat -> MsgR -> RS -> MsgR × RS × Int
 | [],x,r => (x,r,0)
 | c :: l,x,r => if (readP s c x r).2.2 ≠ 0 then readP s c x r else readL s l (readP s c x r).1 (readP s c x r).2.1
def ofM (s : ByteArray) : MsgR × Int :=
 if (rNum s 15 (0,0)).2.2 ≠ 0 then (zM,(rNum s 15 (0,0)).2.2)
 else if isKind (rNum s 15 (0,0)).1 = false then (zM,11)
 else if (readL s (partsOf (rNum s 15 (0,0)).1) { zM with k := (rNum s 15 (0,0)).1 } (rNum s 15 (0,0)).2).2.2 ≠ 0 then (zM,(readL s (partsOf (rNum s 15 (0,0)).1) { zM with k := (rNum s 15 (0,0)).1 } (rNum s 15 (0,0)).2).2.2)
 else if rEnd s (readL s (partsOf (rNum s 15 (0,0)).1) { zM with k := (rNum s 15 (0,0)).1 } (rNum s 15 (0,0)).2).2.1 ≠ 0 then (zM,rEnd s (readL s (partsOf (rNum s 15 (0,0)).1) { zM with k := (rNum s 15 (0,0)).1 } (rNum s 15 (0,0)).2).2.1)
 else if chkM (readL s (partsOf (rNum s 15 (0,0)).1) { zM with k := (rNum s 15 (0,0)).1 } (rNum s 15 (0,0)).2).1 ≠ 0 then (zM,chkM (readL s (partsOf (rNum s 15 (0,0)).1) { zM with k := (rNum s 15 (0,0)).1 } (rNum s 15 (0,0)).2).1)
 else ((readL s (partsOf (rNum s 15 (0,0)).1) { zM with k := (rNum s 15 (0,0)).1 } (rNum s 15 (0,0)).2).1,0)
structure XAt (W : World) (B : Nat) (x : MsgR) : Prop where
 m : Src W 2 x.mA x.ms.length (mcells x.ms)
 mc : x.ms.length <= x.mc
 mn : ∀ ad,x.mA = some ad -> B <= ad.block
 ml : x.ms.length <= 4
 o : Src W 3 x.oA x.ops.length (cells x.ops)
 oc : x.ops.length <= x.oc
 on : ∀ ad,x.oA = some ad -> B <= ad.block
 e : Src W 4 x.eA x.es.length (ecells x.es)
 ec : x.es.length <= x.ec
 en : ∀ ad,x.eA = some ad -> B <= ad.block
 el : x.es.length <= 4
 eo : EntsAt W B x.es
 s : NewSl 22 1 B W x.sA x.ss.length x.sc (u64s x.ss)
 sl : x.ss.length <= 100
 so : ∀ y ∈ x.ss,0 <= y /\ y <= maxTs
 p : Src W 2 x.pA x.ps.length (pcells x.ps)
 pc : x.ps.length <= x.pc
 pn : ∀ ad,x.pA = some ad -> B <= ad.block
 pl : x.ps.length <= 32
 t : (0 <= x.at' /\ x.at' <= maxTs) /\ (0 <= x.last /\ x.last <= maxTs) /\ (0 <= x.cfl /\ x.cfl <= maxTs)
 s0 : x.ss = [] -> x.sA = none /\ x.sc = 0
 pm : x.pc <= maxLen
theorem XAt.kept {W W' : World} {B : Nat} {x : MsgR} {F : Nat -> Prop} (h : XAt W B x) (hk : Kept F W W') (hF : ∀ k,F k -> k < B) : XAt W' B x := by
 have hs : ∀ (A : Option Addr),(∀ ad,A = some ad -> B <= ad.block) -> ∀ ad,A = some ad -> ¬ F ad.block := fun A hA ad e hf => by have := hA ad e;have := hF _ hf;omega
 exact ⟨h.m.kept hk (hs _ h.mn),h.mc,h.mn,h.ml,h.o.kept hk (hs _ h.on),h.oc,h.on,h.e.kept hk (hs _ h.en),h.ec,h.en,h.el,h.eo.kept hk hF,⟨own_kept h.s.1 hk (fun k hk hf => by have := h.s.2 k hk;have := hF _ hf;omega),h.s.2⟩,h.sl,h.so,h.p.kept hk (hs _ h.pn),h.pc,h.pn,h.pl,h.t,h.s0,h.pm⟩
theorem XAt.ok {W : World} {B : Nat} {x : MsgR} (h : XAt W B x) : XOk W x :=
 ⟨h.m,h.mc,Nat.le_trans h.ml (by decide),h.o,h.e,fun y hy => ⟨(h.eo y hy).1,(h.eo y hy).2.2.2⟩,Nat.le_trans h.el (by decide),Src.of_own h.s.1,Nat.le_trans h.sl (by decide),h.so,h.p,Nat.le_trans h.pl (by decide),h.t⟩
structure MS (w : World) (s : ByteArray) (g mb y : Nat) (W : World) (x : MsgR) (r : RS) : Prop where
 rd : RdAt W g s r
 hm : Has W mb 63 (xcell x).toArray
 hy : Has W y 63 (xcell zM).toArray
 at' : XAt W (mb + 1) x
 k : Kept (fun k => k = g \/ k = mb) w W
structure Od (w : World) (g mb y : Nat) : Prop where
 yg : y < g
 gm : g < mb
section
variable {w W W' : World} {s : ByteArray} {g mb y : Nat} {x x' : MsgR} {r r' : RS} {v : Value} {e : Ending}
theorem MS.read (o : Od w g mb y) (h : MS w s g mb y W x r) (hr : RRead W g s v r' e W') : e = .returned v /\ MS w s g mb y W' x r' := by
 obtain ⟨he,h1,h2⟩ := hr
 have a := o.yg;have b := o.gm
 exact ⟨he,h1,h.hm.kept h2 (by omega),h.hy.kept h2 (by omega),h.at'.kept h2 (fun k hk => by omega),h.k.trans h2 (fun i hi => .inl (.inl hi))⟩
theorem MS.quiet (h : MS w s g mb y W x r) (hk : Kept NoF W W') : MS w s g mb y W' x r :=
 ⟨h.rd.kept hk (fun z => z),h.hm.kept hk (fun z => z),h.hy.kept hk (fun z => z),h.at'.kept hk (fun _ z => z.elim),h.k.trans hk (fun _ z => z.elim)⟩
theorem MS.base {w2 : World} (h : MS w s g mb y W x r) (hk : Kept (fun k => k = g \/ k = mb) w2 W) : MS w2 s g mb y W x r := { h with k := hk }
theorem MS.put (o : Od w g mb y) (h : MS w s g mb y W x r) {i : Nat} {u : Value} (he : (xcell x).toArray.setIfInBounds i u = (xcell x').toArray) (hx : ∀ W',Kept (fun k => k = mb) W W' -> XAt W' (mb + 1) x') : MS w s g mb y (W.setCell ⟨mb,i,none⟩ u) x' r := by
 have a := o.yg;have b := o.gm
 have hk : Kept (fun k => k = mb) W (W.setCell ⟨mb,i,none⟩ u) := (Kept.refl _ W).put (.inl rfl)
 exact ⟨h.rd.kept hk (by omega),Has.put_of h.hm he,h.hy.kept hk (by omega),hx _ hk,h.k.trans hk (fun i hi => .inl (.inr hi))⟩
def ReadPost (w : World) (s : ByteArray) (g mb y c : Nat) (x : MsgR) (r : RS) (e : Ending) (W' : World) : Prop :=
 ∃ x',e = .returned (.int .i64 (readP s c (strip x) r).2.2) /\ ((readP s c (strip x) r).2.2 = 0 -> strip x' = (readP s c (strip x) r).1) /\ MS w s g mb y W' x' (readP s c (strip x) r).2.1
theorem set_num (x : MsgR) {c : Nat} (hc : isNum c = true) (v : Int) : (xcell x).toArray.setIfInBounds (numAt c) (.int .i64 v) = (xcell (setNum x c v)).toArray /\ (xcell x).toArray[numAt c]? = some (.int .i64 (numI x c)) /\ strip (setNum x c v) = setNum (strip x) c v := by
 have h : c = 101 \/ c = 115 \/ c = 114 \/ c = 110 \/ c = 109 \/ c = 112 := of_decide_eq_true hc
 rcases h with rfl | rfl | rfl | rfl | rfl | rfl
 all_goals exact ⟨rfl,rfl,rfl⟩
theorem XAt.setNum {B : Nat} (h : XAt W B x) {c : Nat} (hc : isNum c = true) (v : Int) : XAt W B (setNum x c v) := by
 have hh : c = 101 \/ c = 115 \/ c = 114 \/ c = 110 \/ c = 109 \/ c = 112 := of_decide_eq_true hc
 rcases hh with rfl | rfl | rfl | rfl | rfl | rfl
 all_goals exact ⟨h.m,h.mc,h.mn,h.ml,h.o,h.oc,h.on,h.e,h.ec,h.en,h.el,h.eo,h.s,h.sl,h.so,h.p,h.pc,h.pn,h.pl,h.t,h.s0,h.pm⟩
theorem read_num (o : Od w g mb y) (h : MS w s g mb y W x r) (hs : s.size <= maxLen) {c : Nat} (hc : isNum c = true) :
  Calls Tryz.prog 60 #[.pointer (some ⟨g,0,none⟩),.pointer (some ⟨mb,0,none⟩),.int .i32 c] W (ReadPost w s g mb y c x r) := by
 have hnum := fun W => num_some W mb c hc
 have hrd := num_any W g s r 1073741824 h.rd hs (by decide)
 have hp : readP s c (strip x) r = (setNum (strip x) c (rNum s 1073741824 r).1,(rNum s 1073741824 r).2,(rNum s 1073741824 r).2.2) := by unfold readP;rw [if_pos hc]
 unfold ReadPost
 rw [hp]
 obtain ⟨q,hq⟩ : ∃ q,rNum s 1073741824 r = q := ⟨_,rfl⟩
 rw [hq] at hrd ⊢
 obtain ⟨n,r2⟩ := q
 dsimp only at hrd ⊢
 obtain ⟨e1,e2,e3⟩ := set_num x hc (n : Int)
 obtain ⟨ix,hix⟩ : ∃ ix,numAt c = ix := ⟨_,rfl⟩
 rw [hix] at e1 e2
 simp only [hix] at hnum
 have HN := hZ0 hnum;have HRD := hZ0 hrd;have H := hZ0 h;have HE1 := hZ0 (And.intro e1 e3);have HE2 := hZ0 e2;have HO := hZ0 o;have HC := hZ0 hc
 clear hnum hrd h e1 e2 e3 hq hix hp o hc
 go_enter Tryz.func60,Tryz.ntmps60
 go_wp2_with fail
 refine (HN.out W).mono ?_
 rintro e w2 ⟨rfl,rfl⟩
 go_wp2_with fail
 refine HRD.out.mono ?_
 intro e w3 hr
 obtain ⟨rfl,hm⟩ := H.out.read HO.out hr
 have q : w3.cell? ⟨mb,ix,none⟩ = some (.int .i64 (numI x c)) := (hm.hm.cell ix).trans HE2.out
 have f := hm.hm.frozen ix
 have hm2 := hm.put HO.out HE1.out.1 (fun W' hk => (hm.at'.kept hk (fun k hk => by omega)).setNum HC.out _)
 have HM := hZ0 hm2
 clear hr hm hm2
 go_wp2_with fail
 refine (err_any _ g s r2 HM.out.rd).mono ?_
 rintro e w4 ⟨rfl,rfl⟩
 go_wp2
 go_ret
 exact ⟨_,rfl,fun _ => HE1.out.2,HM.out⟩
end
end Mof
namespace Mof
open Plan Ops Ent Vn Msg Cof Wire
section
variable {w W W' : World} {s : ByteArray} {g mb y : Nat} {x x' : MsgR} {r r' : RS} {v : Value} {e : Ending}
theorem big_ts (s : ByteArray) (r : RS) : 0 <= ((rBig s r).1 : Int) /\ ((rBig s r).1 : Int) <= maxTs := by
 have := rBig_lt s r
 unfold maxTs
 omega
theorem simple_120 (o : Od w g mb y) (h : MS w s g mb y W x r) (hs : s.size <= maxLen) :
  Calls Tryz.prog 104 #[.pointer (some ⟨g,0,none⟩),.pointer (some ⟨mb,0,none⟩),.int .i32 (((120 : Nat)) : Int)] W fun e W' => e = .returned (.tuple #[]) /\ MS w s g mb y W' { x with e := (rNum s 21 r).1 } (rNum s 21 r).2 := by
 have hrd := num_any W g s r 21 h.rd hs (by decide)
 obtain ⟨q,hq⟩ : ∃ q,rNum s 21 r = q := ⟨_,rfl⟩
 rw [hq] at hrd ⊢
 obtain ⟨n,r2⟩ := q
 dsimp only at hrd ⊢
 have HRD := hZ0 hrd;have H := hZ0 h;have HO := hZ0 o
 clear hrd h hq o
 go_enter Tryz.func104,Tryz.ntmps104
 go_wp2_with fail
 refine HRD.out.mono ?_
 intro e w3 hr
 obtain ⟨rfl,hm⟩ := H.out.read HO.out hr
 have q : w3.cell? ⟨mb,10,none⟩ = some ((xcell x)[10]'(by show 10 < 22;decide)) := hm.hm.cell 10
 have f := hm.hm.frozen 10
 have hm2 := hm.put (i := 10) (u := .int .i64 (n : Int)) (x' := { x with e := (n : Int) }) HO.out rfl (fun W' hk => by
  have hx := hm.at'.kept hk (fun k hk => by omega)
  exact ⟨hx.m,hx.mc,hx.mn,hx.ml,hx.o,hx.oc,hx.on,hx.e,hx.ec,hx.en,hx.el,hx.eo,hx.s,hx.sl,hx.so,hx.p,hx.pc,hx.pn,hx.pl,hx.t,hx.s0,hx.pm⟩)
 have HM := hZ0 hm2
 clear hr hm hm2
 go_wp2
 go_end0
 exact ⟨rfl,HM.out⟩
theorem read_120 (o : Od w g mb y) (h : MS w s g mb y W x r) (hs : s.size <= maxLen) :
  Calls Tryz.prog 60 #[.pointer (some ⟨g,0,none⟩),.pointer (some ⟨mb,0,none⟩),.int .i32 (((120 : Nat)) : Int)] W (ReadPost w s g mb y 120 x r) := by
 have hnum := fun W => num_none W mb 120 (by decide) (by decide)
 have hsm := simple_120 o h hs
 have hp : readP s 120 (strip x) r = ({ strip x with e := (rNum s 21 r).1 },(rNum s 21 r).2,(rNum s 21 r).2.2) := rfl
 unfold ReadPost
 rw [hp]
 obtain ⟨q,hq⟩ : ∃ q,rNum s 21 r = q := ⟨_,rfl⟩
 rw [hq] at hsm ⊢
 obtain ⟨n,r2⟩ := q
 dsimp only at hsm ⊢
 have HN := hZ0 hnum;have HSM := hZ0 hsm
 clear hnum hsm h hq hp o
 go_enter Tryz.func60,Tryz.ntmps60
 go_wp2_with fail
 refine (HN.out W).mono ?_
 rintro e w2 ⟨rfl,rfl⟩
 go_wp2_with fail
 refine HSM.out.mono ?_
 rintro e w3 ⟨rfl,hm⟩
 have HM := hZ0 hm;clear hm
 go_wp2_with fail
 refine (err_any _ g s r2 HM.out.rd).mono ?_
 rintro e w4 ⟨rfl,rfl⟩
 go_wp2
 go_ret
 exact ⟨_,rfl,fun _ => rfl,HM.out⟩
theorem simple_97 (o : Od w g mb y) (h : MS w s g mb y W x r) (hs : s.size <= maxLen) :
  Calls Tryz.prog 104 #[.pointer (some ⟨g,0,none⟩),.pointer (some ⟨mb,0,none⟩),.int .i32 (((97 : Nat)) : Int)] W fun e W' => e = .returned (.tuple #[]) /\ MS w s g mb y W' { x with at' := (rBig s r).1 } (rBig s r).2 := by
 have hrd := rbig_any W g s r h.rd hs
 have hts := big_ts s r
 obtain ⟨q,hq⟩ : ∃ q,rBig s r = q := ⟨_,rfl⟩
 rw [hq] at hrd hts ⊢
 obtain ⟨n,r2⟩ := q
 dsimp only at hrd hts ⊢
 have HRD := hZ0 hrd;have H := hZ0 h;have HO := hZ0 o;have HTS := hZ0 hts
 clear hrd h hq o hts
 go_enter Tryz.func104,Tryz.ntmps104
 go_wp2_with fail
 refine HRD.out.mono ?_
 intro e w3 hr
 obtain ⟨rfl,hm⟩ := H.out.read HO.out hr
 have q : w3.cell? ⟨mb,5,none⟩ = some ((xcell x)[5]'(by show 5 < 22;decide)) := hm.hm.cell 5
 have f := hm.hm.frozen 5
 have hm2 := hm.put (i := 5) (u := .int .u64 (n : Int)) (x' := { x with at' := (n : Int) }) HO.out rfl (fun W' hk => by
  have hx := hm.at'.kept hk (fun k hk => by omega)
  exact ⟨hx.m,hx.mc,hx.mn,hx.ml,hx.o,hx.oc,hx.on,hx.e,hx.ec,hx.en,hx.el,hx.eo,hx.s,hx.sl,hx.so,hx.p,hx.pc,hx.pn,hx.pl,⟨HTS.out,hx.t.2.1,hx.t.2.2⟩,hx.s0,hx.pm⟩)
 have HM := hZ0 hm2
 clear hr hm hm2
 go_wp2
 go_end0
 exact ⟨rfl,HM.out⟩
theorem read_97 (o : Od w g mb y) (h : MS w s g mb y W x r) (hs : s.size <= maxLen) :
  Calls Tryz.prog 60 #[.pointer (some ⟨g,0,none⟩),.pointer (some ⟨mb,0,none⟩),.int .i32 (((97 : Nat)) : Int)] W (ReadPost w s g mb y 97 x r) := by
 have hnum := fun W => num_none W mb 97 (by decide) (by decide)
 have hsm := simple_97 o h hs
 have hp : readP s 97 (strip x) r = ({ strip x with at' := (rBig s r).1 },(rBig s r).2,(rBig s r).2.2) := rfl
 unfold ReadPost
 rw [hp]
 obtain ⟨q,hq⟩ : ∃ q,rBig s r = q := ⟨_,rfl⟩
 rw [hq] at hsm ⊢
 obtain ⟨n,r2⟩ := q
 dsimp only at hsm ⊢
 have HN := hZ0 hnum;have HSM := hZ0 hsm
 clear hnum hsm h hq hp o
 go_enter Tryz.func60,Tryz.ntmps60
 go_wp2_with fail
 refine (HN.out W).mono ?_
 rintro e w2 ⟨rfl,rfl⟩
 go_wp2_with fail
 refine HSM.out.mono ?_
 rintro e w3 ⟨rfl,hm⟩
 have HM := hZ0 hm;clear hm
 go_wp2_with fail
 refine (err_any _ g s r2 HM.out.rd).mono ?_
 rintro e w4 ⟨rfl,rfl⟩
 go_wp2
 go_ret
 exact ⟨_,rfl,fun _ => rfl,HM.out⟩
theorem simple_108 (o : Od w g mb y) (h : MS w s g mb y W x r) (hs : s.size <= maxLen) :
  Calls Tryz.prog 104 #[.pointer (some ⟨g,0,none⟩),.pointer (some ⟨mb,0,none⟩),.int .i32 (((108 : Nat)) : Int)] W fun e W' => e = .returned (.tuple #[]) /\ MS w s g mb y W' { x with last := (rBig s r).1 } (rBig s r).2 := by
 have hrd := rbig_any W g s r h.rd hs
 have hts := big_ts s r
 obtain ⟨q,hq⟩ : ∃ q,rBig s r = q := ⟨_,rfl⟩
 rw [hq] at hrd hts ⊢
 obtain ⟨n,r2⟩ := q
 dsimp only at hrd hts ⊢
 have HRD := hZ0 hrd;have H := hZ0 h;have HO := hZ0 o;have HTS := hZ0 hts
 clear hrd h hq o hts
 go_enter Tryz.func104,Tryz.ntmps104
 go_wp2_with fail
 refine HRD.out.mono ?_
 intro e w3 hr
 obtain ⟨rfl,hm⟩ := H.out.read HO.out hr
 have q : w3.cell? ⟨mb,6,none⟩ = some ((xcell x)[6]'(by show 6 < 22;decide)) := hm.hm.cell 6
 have f := hm.hm.frozen 6
 have hm2 := hm.put (i := 6) (u := .int .u64 (n : Int)) (x' := { x with last := (n : Int) }) HO.out rfl (fun W' hk => by
  have hx := hm.at'.kept hk (fun k hk => by omega)
  exact ⟨hx.m,hx.mc,hx.mn,hx.ml,hx.o,hx.oc,hx.on,hx.e,hx.ec,hx.en,hx.el,hx.eo,hx.s,hx.sl,hx.so,hx.p,hx.pc,hx.pn,hx.pl,⟨hx.t.1,HTS.out,hx.t.2.2⟩,hx.s0,hx.pm⟩)
 have HM := hZ0 hm2
 clear hr hm hm2
 go_wp2
 go_end0
 exact ⟨rfl,HM.out⟩
theorem read_108 (o : Od w g mb y) (h : MS w s g mb y W x r) (hs : s.size <= maxLen) :
  Calls Tryz.prog 60 #[.pointer (some ⟨g,0,none⟩),.pointer (some ⟨mb,0,none⟩),.int .i32 (((108 : Nat)) : Int)] W (ReadPost w s g mb y 108 x r) := by
 have hnum := fun W => num_none W mb 108 (by decide) (by decide)
 have hsm := simple_108 o h hs
 have hp : readP s 108 (strip x) r = ({ strip x with last := (rBig s r).1 },(rBig s r).2,(rBig s r).2.2) := rfl
 unfold ReadPost
 rw [hp]
 obtain ⟨q,hq⟩ : ∃ q,rBig s r = q := ⟨_,rfl⟩
 rw [hq] at hsm ⊢
 obtain ⟨n,r2⟩ := q
 dsimp only at hsm ⊢
 have HN := hZ0 hnum;have HSM := hZ0 hsm
 clear hnum hsm h hq hp o
 go_enter Tryz.func60,Tryz.ntmps60
 go_wp2_with fail
 refine (HN.out W).mono ?_
 rintro e w2 ⟨rfl,rfl⟩
 go_wp2_with fail
 refine HSM.out.mono ?_
 rintro e w3 ⟨rfl,hm⟩
 have HM := hZ0 hm;clear hm
 go_wp2_with fail
 refine (err_any _ g s r2 HM.out.rd).mono ?_
 rintro e w4 ⟨rfl,rfl⟩
 go_wp2
 go_ret
 exact ⟨_,rfl,fun _ => rfl,HM.out⟩
theorem simple_102 (o : Od w g mb y) (h : MS w s g mb y W x r) (hs : s.size <= maxLen) :
  Calls Tryz.prog 104 #[.pointer (some ⟨g,0,none⟩),.pointer (some ⟨mb,0,none⟩),.int .i32 (((102 : Nat)) : Int)] W fun e W' => e = .returned (.tuple #[]) /\ MS w s g mb y W' { x with fl := (rFlag s r).1 } (rFlag s r).2 := by
 have hrd := flag_any W g s r h.rd hs
 obtain ⟨q,hq⟩ : ∃ q,rFlag s r = q := ⟨_,rfl⟩
 rw [hq] at hrd ⊢
 obtain ⟨n,r2⟩ := q
 dsimp only at hrd ⊢
 have HRD := hZ0 hrd;have H := hZ0 h;have HO := hZ0 o
 clear hrd h hq o
 go_enter Tryz.func104,Tryz.ntmps104
 go_wp2_with fail
 refine HRD.out.mono ?_
 intro e w3 hr
 obtain ⟨rfl,hm⟩ := H.out.read HO.out hr
 have q : w3.cell? ⟨mb,4,none⟩ = some ((xcell x)[4]'(by show 4 < 22;decide)) := hm.hm.cell 4
 have f := hm.hm.frozen 4
 have hm2 := hm.put (i := 4) (u := .bool n) (x' := { x with fl := n }) HO.out rfl (fun W' hk => by
  have hx := hm.at'.kept hk (fun k hk => by omega)
  exact ⟨hx.m,hx.mc,hx.mn,hx.ml,hx.o,hx.oc,hx.on,hx.e,hx.ec,hx.en,hx.el,hx.eo,hx.s,hx.sl,hx.so,hx.p,hx.pc,hx.pn,hx.pl,hx.t,hx.s0,hx.pm⟩)
 have HM := hZ0 hm2
 clear hr hm hm2
 go_wp2
 go_end0
 exact ⟨rfl,HM.out⟩
theorem read_102 (o : Od w g mb y) (h : MS w s g mb y W x r) (hs : s.size <= maxLen) :
  Calls Tryz.prog 60 #[.pointer (some ⟨g,0,none⟩),.pointer (some ⟨mb,0,none⟩),.int .i32 (((102 : Nat)) : Int)] W (ReadPost w s g mb y 102 x r) := by
 have hnum := fun W => num_none W mb 102 (by decide) (by decide)
 have hsm := simple_102 o h hs
 have hp : readP s 102 (strip x) r = ({ strip x with fl := (rFlag s r).1 },(rFlag s r).2,(rFlag s r).2.2) := rfl
 unfold ReadPost
 rw [hp]
 obtain ⟨q,hq⟩ : ∃ q,rFlag s r = q := ⟨_,rfl⟩
 rw [hq] at hsm ⊢
 obtain ⟨n,r2⟩ := q
 dsimp only at hsm ⊢
 have HN := hZ0 hnum;have HSM := hZ0 hsm
 clear hnum hsm h hq hp o
 go_enter Tryz.func60,Tryz.ntmps60
 go_wp2_with fail
 refine (HN.out W).mono ?_
 rintro e w2 ⟨rfl,rfl⟩
 go_wp2_with fail
 refine HSM.out.mono ?_
 rintro e w3 ⟨rfl,hm⟩
 have HM := hZ0 hm;clear hm
 go_wp2_with fail
 refine (err_any _ g s r2 HM.out.rd).mono ?_
 rintro e w4 ⟨rfl,rfl⟩
 go_wp2
 go_ret
 exact ⟨_,rfl,fun _ => rfl,HM.out⟩
theorem simple_107 (o : Od w g mb y) (h : MS w s g mb y W x r) (hs : s.size <= maxLen) :
  Calls Tryz.prog 104 #[.pointer (some ⟨g,0,none⟩),.pointer (some ⟨mb,0,none⟩),.int .i32 (((107 : Nat)) : Int)] W fun e W' => e = .returned (.tuple #[]) /\ MS w s g mb y W' { x with key := (rText s 8 r).1 } (rText s 8 r).2 := by
 have hrd := text_any W g s r 8 h.rd hs (by decide)
 obtain ⟨q,hq⟩ : ∃ q,rText s 8 r = q := ⟨_,rfl⟩
 rw [hq] at hrd ⊢
 obtain ⟨n,r2⟩ := q
 dsimp only at hrd ⊢
 have HRD := hZ0 hrd;have H := hZ0 h;have HO := hZ0 o
 clear hrd h hq o
 go_enter Tryz.func104,Tryz.ntmps104
 go_wp2_with fail
 refine HRD.out.mono ?_
 intro e w3 hr
 obtain ⟨rfl,hm⟩ := H.out.read HO.out hr
 have q : w3.cell? ⟨mb,11,none⟩ = some ((xcell x)[11]'(by show 11 < 22;decide)) := hm.hm.cell 11
 have f := hm.hm.frozen 11
 have hm2 := hm.put (i := 11) (u := .string n) (x' := { x with key := n }) HO.out rfl (fun W' hk => by
  have hx := hm.at'.kept hk (fun k hk => by omega)
  exact ⟨hx.m,hx.mc,hx.mn,hx.ml,hx.o,hx.oc,hx.on,hx.e,hx.ec,hx.en,hx.el,hx.eo,hx.s,hx.sl,hx.so,hx.p,hx.pc,hx.pn,hx.pl,hx.t,hx.s0,hx.pm⟩)
 have HM := hZ0 hm2
 clear hr hm hm2
 go_wp2
 go_end0
 exact ⟨rfl,HM.out⟩
theorem read_107 (o : Od w g mb y) (h : MS w s g mb y W x r) (hs : s.size <= maxLen) :
  Calls Tryz.prog 60 #[.pointer (some ⟨g,0,none⟩),.pointer (some ⟨mb,0,none⟩),.int .i32 (((107 : Nat)) : Int)] W (ReadPost w s g mb y 107 x r) := by
 have hnum := fun W => num_none W mb 107 (by decide) (by decide)
 have hsm := simple_107 o h hs
 have hp : readP s 107 (strip x) r = ({ strip x with key := (rText s 8 r).1 },(rText s 8 r).2,(rText s 8 r).2.2) := rfl
 unfold ReadPost
 rw [hp]
 obtain ⟨q,hq⟩ : ∃ q,rText s 8 r = q := ⟨_,rfl⟩
 rw [hq] at hsm ⊢
 obtain ⟨n,r2⟩ := q
 dsimp only at hsm ⊢
 have HN := hZ0 hnum;have HSM := hZ0 hsm
 clear hnum hsm h hq hp o
 go_enter Tryz.func60,Tryz.ntmps60
 go_wp2_with fail
 refine (HN.out W).mono ?_
 rintro e w2 ⟨rfl,rfl⟩
 go_wp2_with fail
 refine HSM.out.mono ?_
 rintro e w3 ⟨rfl,hm⟩
 have HM := hZ0 hm;clear hm
 go_wp2_with fail
 refine (err_any _ g s r2 HM.out.rd).mono ?_
 rintro e w4 ⟨rfl,rfl⟩
 go_wp2
 go_ret
 exact ⟨_,rfl,fun _ => rfl,HM.out⟩
theorem simple_116 (o : Od w g mb y) (h : MS w s g mb y W x r) (hs : s.size <= maxLen) :
  Calls Tryz.prog 104 #[.pointer (some ⟨g,0,none⟩),.pointer (some ⟨mb,0,none⟩),.int .i32 (((116 : Nat)) : Int)] W fun e W' => e = .returned (.tuple #[]) /\ MS w s g mb y W' { x with to := (rText s 8 r).1 } (rText s 8 r).2 := by
 have hrd := text_any W g s r 8 h.rd hs (by decide)
 obtain ⟨q,hq⟩ : ∃ q,rText s 8 r = q := ⟨_,rfl⟩
 rw [hq] at hrd ⊢
 obtain ⟨n,r2⟩ := q
 dsimp only at hrd ⊢
 have HRD := hZ0 hrd;have H := hZ0 h;have HO := hZ0 o
 clear hrd h hq o
 go_enter Tryz.func104,Tryz.ntmps104
 go_wp2_with fail
 refine HRD.out.mono ?_
 intro e w3 hr
 obtain ⟨rfl,hm⟩ := H.out.read HO.out hr
 have q : w3.cell? ⟨mb,12,none⟩ = some ((xcell x)[12]'(by show 12 < 22;decide)) := hm.hm.cell 12
 have f := hm.hm.frozen 12
 have hm2 := hm.put (i := 12) (u := .string n) (x' := { x with to := n }) HO.out rfl (fun W' hk => by
  have hx := hm.at'.kept hk (fun k hk => by omega)
  exact ⟨hx.m,hx.mc,hx.mn,hx.ml,hx.o,hx.oc,hx.on,hx.e,hx.ec,hx.en,hx.el,hx.eo,hx.s,hx.sl,hx.so,hx.p,hx.pc,hx.pn,hx.pl,hx.t,hx.s0,hx.pm⟩)
 have HM := hZ0 hm2
 clear hr hm hm2
 go_wp2
 go_end0
 exact ⟨rfl,HM.out⟩
theorem read_116 (o : Od w g mb y) (h : MS w s g mb y W x r) (hs : s.size <= maxLen) :
  Calls Tryz.prog 60 #[.pointer (some ⟨g,0,none⟩),.pointer (some ⟨mb,0,none⟩),.int .i32 (((116 : Nat)) : Int)] W (ReadPost w s g mb y 116 x r) := by
 have hnum := fun W => num_none W mb 116 (by decide) (by decide)
 have hsm := simple_116 o h hs
 have hp : readP s 116 (strip x) r = ({ strip x with to := (rText s 8 r).1 },(rText s 8 r).2,(rText s 8 r).2.2) := rfl
 unfold ReadPost
 rw [hp]
 obtain ⟨q,hq⟩ : ∃ q,rText s 8 r = q := ⟨_,rfl⟩
 rw [hq] at hsm ⊢
 obtain ⟨n,r2⟩ := q
 dsimp only at hsm ⊢
 have HN := hZ0 hnum;have HSM := hZ0 hsm
 clear hnum hsm h hq hp o
 go_enter Tryz.func60,Tryz.ntmps60
 go_wp2_with fail
 refine (HN.out W).mono ?_
 rintro e w2 ⟨rfl,rfl⟩
 go_wp2_with fail
 refine HSM.out.mono ?_
 rintro e w3 ⟨rfl,hm⟩
 have HM := hZ0 hm;clear hm
 go_wp2_with fail
 refine (err_any _ g s r2 HM.out.rd).mono ?_
 rintro e w4 ⟨rfl,rfl⟩
 go_wp2
 go_ret
 exact ⟨_,rfl,fun _ => rfl,HM.out⟩
end
end Mof
end Go.Proofs.YtgbigpdiacjbgaaGreat

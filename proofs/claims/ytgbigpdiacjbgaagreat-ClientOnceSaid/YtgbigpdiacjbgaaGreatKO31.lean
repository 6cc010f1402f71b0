/- Part 32 of what the proof needs. -/
import Derived.Test.YtgbigpdiacjbgaaGreatKO30
import Derived.Deep.RegionLaw
set_option linter.unusedSimpArgs false
set_option linter.unusedVariables false
set_option maxHeartbeats 32000000
set_option maxRecDepth 100000
namespace Go.Proofs.YtgbigpdiacjbgaaGreat
open Go.RowKit
set_option maxRecDepth 100000
namespace Mof
open Plan Ops Ent Vn Msg Cof Wire
theorem inC_in (s : ByteArray) (r : RS) : (inC s r).1.ms.length <= 4 /\ 0 <= (inC s r).1.fl /\ (inC s r).1.fl <= maxTs := by
 have z : (0 : Nat) <= 4 /\ (0 : Int) <= 0 /\ (0 : Int) <= maxTs := by unfold maxTs;decide
 unfold inC
 split
 ·exact z
 unfold ofC
 dsimp only
 split
 ·exact z
 split
 ·exact z
 ·dsimp only
  rw [rMems_len]
  exact ⟨rNum_le _ _ _,big_ts _ _⟩
section
variable {w W W' : World} {s : ByteArray} {g mb y : Nat} {x x' : MsgR} {r r' : RS} {v : Value} {e : Ending}
theorem MS.after (o : Od w g mb y) (h : MS w s g mb y W x r) (hr : RdAt W' g s r') (hk : Kept (fun k => k = g) W W') : MS w s g mb y W' x r' := (h.read o (v := .bool true) (e := .returned (.bool true)) ⟨rfl,hr,hk⟩).2
theorem read_67 (o : Od w g mb y) (h : MS w s g mb y W x r) (hs : s.size <= maxLen) :
  Calls Tryz.prog 60 #[.pointer (some ⟨g,0,none⟩),.pointer (some ⟨mb,0,none⟩),.int .i32 (((67 : Nat)) : Int)] W (ReadPost w s g mb y 67 x r) := by
 have hnum := fun W => num_none W mb 67 (by decide) (by decide)
 have hin := inC_any W g s r h.rd hs
 have hbd := inC_in s r
 have hp : readP s 67 (strip x) r = ({ strip x with cep := (inC s r).1.ep,ms := (inC s r).1.ms,cfl := (inC s r).1.fl },(rText s 65536 r).2,(inC s r).2) := rfl
 unfold inCPost at hin
 unfold ReadPost
 rw [hp]
 obtain ⟨q,hq⟩ : ∃ q,inC s r = q := ⟨_,rfl⟩
 rw [hq] at hin ⊢ hbd
 obtain ⟨⟨ep,ms,fl⟩,er⟩ := q
 dsimp only at hin hbd ⊢
 obtain ⟨tq,htq⟩ : ∃ tq,(rText s 65536 r).2 = tq := ⟨_,rfl⟩
 rw [htq] at hin ⊢
 obtain ⟨n,hn⟩ : ∃ n,ms.length = n := ⟨_,rfl⟩
 rw [hn] at hin hbd
 have HN := hZ0 hnum;have HIN := hZ0 hin;have H := hZ0 h;have HO := hZ0 o;have HNN := hZ0 hn;have HBD := hZ0 hbd
 clear hnum hin h hq hp o htq hn hbd
 go_enter Tryz.func60,Tryz.ntmps60
 go_wp2_with fail
 refine (HN.out W).mono ?_
 rintro e w2 ⟨rfl,rfl⟩
 go_wp2_with fail
 refine HIN.out.mono ?_
 rintro e w3 ⟨A,c,rfl,hsr,hc1,hc2,hnw,hrd,hk⟩
 have hm := H.out.after HO.out hrd hk
 have q0 : w3.cell? ⟨mb,13,none⟩ = some ((xcell x)[13]'(by show 13 < 22;decide)) := hm.hm.cell 13
 have q1 : w3.cell? ⟨mb,14,none⟩ = some ((xcell x)[14]'(by show 14 < 22;decide)) := hm.hm.cell 14
 have q2 : w3.cell? ⟨mb,15,none⟩ = some ((xcell x)[15]'(by show 15 < 22;decide)) := hm.hm.cell 15
 have f0 := hm.hm.frozen 13
 have f1 := hm.hm.frozen 14
 have f2 := hm.hm.frozen 15
 have hmw : mb + 1 <= W.heap.size := H.out.hm.lt
 have hab : ∀ ad,A = some ad -> mb + 1 <= ad.block := fun ad e => Nat.le_trans hmw (hnw ad e)
 have hsr' : ∀ W',Kept (fun k => k = mb) w3 W' -> Src W' 2 A ms.length (mcells ms) := fun W' hk => by rw [HNN.out];exact hsr.kept hk (fun ad e hf => by have := hab ad e;omega)
 have hc1' : ms.length <= c := by rw [HNN.out];exact hc1
 have hm1 := hm.put (i := 13) (u := .int .i64 ep) (x' := { x with cep := ep }) HO.out rfl (fun W' hk => by
  have hx := hm.at'.kept hk (fun k hk => by omega)
  exact ⟨hx.m,hx.mc,hx.mn,hx.ml,hx.o,hx.oc,hx.on,hx.e,hx.ec,hx.en,hx.el,hx.eo,hx.s,hx.sl,hx.so,hx.p,hx.pc,hx.pn,hx.pl,hx.t,hx.s0,hx.pm⟩)
 have hm2 := hm1.put (i := 14) (u := .slice A n c) (x' := { x with cep := ep,mA := A,mc := c,ms := ms }) HO.out (by rw [<- HNN.out];rfl) (fun W' hk => by
  have hx := hm1.at'.kept hk (fun k hk => by omega)
  have hkk : Kept (fun k => k = mb) w3 W' := ((Kept.refl (fun k => k = mb) w3).put (.inl rfl)).then hk
  exact ⟨hsr' W' hkk,hc1',hab,by dsimp only;rw [HNN.out];exact HBD.out.1,hx.o,hx.oc,hx.on,hx.e,hx.ec,hx.en,hx.el,hx.eo,hx.s,hx.sl,hx.so,hx.p,hx.pc,hx.pn,hx.pl,hx.t,hx.s0,hx.pm⟩)
 have hm3 := hm2.put (i := 15) (u := .int .u64 fl) (x' := { x with cep := ep,mA := A,mc := c,ms := ms,cfl := fl }) HO.out rfl (fun W' hk => by
  have hx := hm2.at'.kept hk (fun k hk => by omega)
  exact ⟨hx.m,hx.mc,hx.mn,hx.ml,hx.o,hx.oc,hx.on,hx.e,hx.ec,hx.en,hx.el,hx.eo,hx.s,hx.sl,hx.so,hx.p,hx.pc,hx.pn,hx.pl,⟨hx.t.1,hx.t.2.1,HBD.out.2⟩,hx.s0,hx.pm⟩)
 have HM := hZ0 hm3
 clear hsr hc1 hc2 hnw hrd hk hm hmw hab hsr' hc1' hm1 hm2 hm3
 go_wp2
 go_ret
 exact ⟨_,rfl,fun _ => rfl,HM.out⟩
theorem read_66 (o : Od w g mb y) (h : MS w s g mb y W x r) (hs : s.size <= maxLen) :
  Calls Tryz.prog 60 #[.pointer (some ⟨g,0,none⟩),.pointer (some ⟨mb,0,none⟩),.int .i32 (((66 : Nat)) : Int)] W (ReadPost w s g mb y 66 x r) := by
 have hnum := fun W => num_none W mb 66 (by decide) (by decide)
 have hin := inB_any W g s r h.rd hs
 have hp : readP s 66 (strip x) r = ({ strip x with bcl := (inB' s r).1.cl,breq := (inB' s r).1.req,ops := (inB' s r).1.ops },(rText s 65536 r).2,(inB' s r).2) := rfl
 unfold inBPost at hin
 unfold ReadPost
 rw [hp]
 obtain ⟨q,hq⟩ : ∃ q,inB' s r = q := ⟨_,rfl⟩
 rw [hq] at hin ⊢
 obtain ⟨⟨cl,rq,ops⟩,er⟩ := q
 unfold bagg at hin
 dsimp only at hin ⊢
 obtain ⟨tq,htq⟩ : ∃ tq,(rText s 65536 r).2 = tq := ⟨_,rfl⟩
 rw [htq] at hin ⊢
 obtain ⟨n,hn⟩ : ∃ n,ops.length = n := ⟨_,rfl⟩
 rw [hn] at hin
 have HN := hZ0 hnum;have HIN := hZ0 hin;have H := hZ0 h;have HO := hZ0 o;have HNN := hZ0 hn
 clear hnum hin h hq hp o htq hn
 go_enter Tryz.func60,Tryz.ntmps60
 go_wp2_with fail
 refine (HN.out W).mono ?_
 rintro e w2 ⟨rfl,rfl⟩
 go_wp2_with fail
 refine HIN.out.mono ?_
 rintro e w3 ⟨A,c,rfl,hsr,hc1,hc2,hnw,hrd,hk⟩
 have hm := H.out.after HO.out hrd hk
 have q0 : w3.cell? ⟨mb,16,none⟩ = some ((xcell x)[16]'(by show 16 < 22;decide)) := hm.hm.cell 16
 have q1 : w3.cell? ⟨mb,17,none⟩ = some ((xcell x)[17]'(by show 17 < 22;decide)) := hm.hm.cell 17
 have q2 : w3.cell? ⟨mb,18,none⟩ = some ((xcell x)[18]'(by show 18 < 22;decide)) := hm.hm.cell 18
 have f0 := hm.hm.frozen 16
 have f1 := hm.hm.frozen 17
 have f2 := hm.hm.frozen 18
 have hmw : mb + 1 <= W.heap.size := H.out.hm.lt
 have hab : ∀ ad,A = some ad -> mb + 1 <= ad.block := fun ad e => Nat.le_trans hmw (hnw ad e)
 have hsr' : ∀ W',Kept (fun k => k = mb) w3 W' -> Src W' 3 A ops.length (cells ops) := fun W' hk => by rw [HNN.out];exact hsr.kept hk (fun ad e hf => by have := hab ad e;omega)
 have hc1' : ops.length <= c := by rw [HNN.out];exact hc1
 have hm1 := hm.put (i := 16) (u := .int .i64 cl) (x' := { x with bcl := cl }) HO.out rfl (fun W' hk => by
  have hx := hm.at'.kept hk (fun k hk => by omega)
  exact ⟨hx.m,hx.mc,hx.mn,hx.ml,hx.o,hx.oc,hx.on,hx.e,hx.ec,hx.en,hx.el,hx.eo,hx.s,hx.sl,hx.so,hx.p,hx.pc,hx.pn,hx.pl,hx.t,hx.s0,hx.pm⟩)
 have hm2 := hm1.put (i := 17) (u := .int .i64 rq) (x' := { x with bcl := cl,breq := rq }) HO.out rfl (fun W' hk => by
  have hx := hm1.at'.kept hk (fun k hk => by omega)
  exact ⟨hx.m,hx.mc,hx.mn,hx.ml,hx.o,hx.oc,hx.on,hx.e,hx.ec,hx.en,hx.el,hx.eo,hx.s,hx.sl,hx.so,hx.p,hx.pc,hx.pn,hx.pl,hx.t,hx.s0,hx.pm⟩)
 have hm3 := hm2.put (i := 18) (u := .slice A n c) (x' := { x with bcl := cl,breq := rq,oA := A,oc := c,ops := ops }) HO.out (by rw [<- HNN.out];rfl) (fun W' hk => by
  have hx := hm2.at'.kept hk (fun k hk => by omega)
  have hkk : Kept (fun k => k = mb) w3 W' := (((Kept.refl (fun k => k = mb) w3).put (.inl rfl)).put (.inl rfl)).then hk
  exact ⟨hx.m,hx.mc,hx.mn,hx.ml,hsr' W' hkk,hc1',hab,hx.e,hx.ec,hx.en,hx.el,hx.eo,hx.s,hx.sl,hx.so,hx.p,hx.pc,hx.pn,hx.pl,hx.t,hx.s0,hx.pm⟩)
 have HM := hZ0 hm3
 clear hsr hc1 hc2 hnw hrd hk hm hmw hab hsr' hc1' hm1 hm2 hm3
 go_wp2
 go_ret
 exact ⟨_,rfl,fun _ => rfl,HM.out⟩
theorem read_69 (o : Od w g mb y) (h : MS w s g mb y W x r) (hs : s.size <= maxLen) :
  Calls Tryz.prog 60 #[.pointer (some ⟨g,0,none⟩),.pointer (some ⟨mb,0,none⟩),.int .i32 (((69 : Nat)) : Int)] W (ReadPost w s g mb y 69 x r) := by
 have hnum := fun W => num_none W mb 69 (by decide) (by decide)
 have hin := several_any W g s r h.rd hs
 have hln : (rEnts s (rNum s 4 r).1 (rNum s 4 r).2).1.length <= 4 := Nat.le_trans (rEnts_len _ _ _) (rNum_le _ _ _)
 have hp : readP s 69 (strip x) r = ({ strip x with es := (rEnts s (rNum s 4 r).1 (rNum s 4 r).2).1 },(rEnts s (rNum s 4 r).1 (rNum s 4 r).2).2.1,if (rEnts s (rNum s 4 r).1 (rNum s 4 r).2).2.2 ≠ 0 then (rEnts s (rNum s 4 r).1 (rNum s 4 r).2).2.2 else (rEnts s (rNum s 4 r).1 (rNum s 4 r).2).2.1.2) := rfl
 unfold SevPost at hin
 unfold ReadPost
 rw [hp]
 obtain ⟨q,hq⟩ : ∃ q,rEnts s (rNum s 4 r).1 (rNum s 4 r).2 = q := ⟨_,rfl⟩
 rw [hq] at hin hln ⊢
 obtain ⟨l,r2,er⟩ := q
 dsimp only at hin hln ⊢
 have HN := hZ0 hnum;have HIN := hZ0 hin;have H := hZ0 h;have HO := hZ0 o;have HLN := hZ0 hln
 clear hnum hin h hq hp o hln
 go_enter Tryz.func60,Tryz.ntmps60
 go_wp2_with fail
 refine (HN.out W).mono ?_
 rintro e w2 ⟨rfl,rfl⟩
 go_wp2_with fail
 refine HIN.out.mono ?_
 rintro e w3 ⟨A,c,l',rfl,hl',hsr,hc1,hnw,heo,hrd,hk⟩
 have hm := H.out.after HO.out hrd hk
 have q0 : w3.cell? ⟨mb,19,none⟩ = some ((xcell x)[19]'(by show 19 < 22;decide)) := hm.hm.cell 19
 have f0 := hm.hm.frozen 19
 have hmw : mb + 1 <= W.heap.size := H.out.hm.lt
 have hab : ∀ ad,A = some ad -> mb + 1 <= ad.block := fun ad e => Nat.le_trans hmw (hnw ad e)
 have hl4 : l'.length <= 4 := by have := congrArg List.length hl';rw [List.length_map] at this;have := HLN.out;omega
 have heo' : EntsAt w3 (mb + 1) l' := fun z hz => by
  obtain ⟨a1,a2,a3,a4⟩ := heo z hz
  exact ⟨a1,a2,fun ad e => Nat.le_trans hmw (a3 ad e),a4⟩
 have hm1 := hm.put (i := 19) (u := .slice A l'.length c) (x' := { x with eA := A,ec := c,es := l' }) HO.out rfl (fun W' hk => by
  have hx := hm.at'.kept hk (fun k hk => by omega)
  exact ⟨hx.m,hx.mc,hx.mn,hx.ml,hx.o,hx.oc,hx.on,hsr.kept hk (fun ad e hf => by have := hab ad e;omega),hc1,hab,hl4,heo'.kept hk (fun k hk => by omega),hx.s,hx.sl,hx.so,hx.p,hx.pc,hx.pn,hx.pl,hx.t,hx.s0,hx.pm⟩)
 have HM := hZ0 hm1;have HL := hZ0 hl'
 have hll : l'.length <= 9223372036854775807 := by omega
 obtain ⟨nl,hnl⟩ : ∃ nl,l'.length = nl := ⟨_,rfl⟩
 rw [hnl] at HM ⊢
 clear hsr hc1 hnw heo hrd hk hm hmw hab hl4 heo' hm1 hl' hll hnl
 by_cases he : er = 0
 ·subst he
  go_wp2_with fail
  refine (err_any _ g s r2 HM.out.rd).mono ?_
  rintro e w4 ⟨rfl,rfl⟩
  go_wp2
  go_ret
  first
  | exact ⟨rfl,{ x with eA := A,ec := c,es := l' },fun _ => by unfold strip;dsimp only;rw [HL.out],HM.out⟩
  | exact ⟨rfl,{ x with eA := A,ec := c,es := l' },by unfold strip;dsimp only;rw [HL.out],HM.out⟩
 ·have he2 : (er != 0) = true := by simpa using he
  have HE := hZ0 he;clear he
  go_wp2
  go_ret
  first
  | exact ⟨rfl,{ x with eA := A,ec := c,es := l' },HM.out⟩
  | exact ⟨rfl,{ x with eA := A,ec := c,es := l' },fun hz => absurd hz HE.out,HM.out⟩
theorem read_82 (o : Od w g mb y) (h : MS w s g mb y W x r) (hs : s.size <= maxLen) :
  Calls Tryz.prog 60 #[.pointer (some ⟨g,0,none⟩),.pointer (some ⟨mb,0,none⟩),.int .i32 (((82 : Nat)) : Int)] W (ReadPost w s g mb y 82 x r) := by
 have hnum := fun W => num_none W mb 82 (by decide) (by decide)
 have hin := rows_any W g s r h.rd hs
 have hln : (rPairs s (rNum s 32 r).1 (rNum s 32 r).2).1.length <= 32 := by rw [rPairs_len];exact rNum_le _ _ _
 have hp : readP s 82 (strip x) r = ({ strip x with ps := (rPairs s (rNum s 32 r).1 (rNum s 32 r).2).1 },(rPairs s (rNum s 32 r).1 (rNum s 32 r).2).2,(rPairs s (rNum s 32 r).1 (rNum s 32 r).2).2.2) := rfl
 unfold RowsPost at hin
 unfold ReadPost
 rw [hp]
 obtain ⟨q,hq⟩ : ∃ q,rPairs s (rNum s 32 r).1 (rNum s 32 r).2 = q := ⟨_,rfl⟩
 rw [hq] at hin hln ⊢
 obtain ⟨l,r2⟩ := q
 dsimp only at hin hln ⊢
 obtain ⟨nl,hnl⟩ : ∃ nl,l.length = nl := ⟨_,rfl⟩
 rw [hnl] at hin hln
 have HN := hZ0 hnum;have HIN := hZ0 hin;have H := hZ0 h;have HO := hZ0 o;have HLN := hZ0 hln;have HNL := hZ0 hnl
 clear hnum hin h hq hp o hln hnl
 go_enter Tryz.func60,Tryz.ntmps60
 go_wp2_with fail
 refine (HN.out W).mono ?_
 rintro e w2 ⟨rfl,rfl⟩
 go_wp2_with fail
 refine HIN.out.mono ?_
 rintro e w3 ⟨A,c,rfl,hrow,hrd,hk⟩
 have hm := H.out.after HO.out hrd hk
 have q0 : w3.cell? ⟨mb,21,none⟩ = some ((xcell x)[21]'(by show 21 < 22;decide)) := hm.hm.cell 21
 have f0 := hm.hm.frozen 21
 have hmw : mb + 1 <= W.heap.size := H.out.hm.lt
 have hab : ∀ ad,A = some ad -> mb + 1 <= ad.block := fun ad e => Nat.le_trans hmw (row_above hrow ad e)
 have hm1 := hm.put (i := 21) (u := .slice A nl c) (x' := { x with pA := A,pc := c,ps := l }) HO.out (by rw [<- HNL.out];rfl) (fun W' hk => by
  have hx := hm.at'.kept hk (fun k hk => by omega)
  exact ⟨hx.m,hx.mc,hx.mn,hx.ml,hx.o,hx.oc,hx.on,hx.e,hx.ec,hx.en,hx.el,hx.eo,hx.s,hx.sl,hx.so,by dsimp only;rw [HNL.out];exact (Src.of_own hrow.1).kept hk (fun ad e hf => by have := hab ad e;omega),by dsimp only;rw [HNL.out];exact (own_cap hrow.1).1,hab,by dsimp only;rw [HNL.out];exact HLN.out,hx.t,hx.s0,(own_cap hrow.1).2⟩)
 have HM := hZ0 hm1
 clear hrow hrd hk hm hmw hab hm1
 go_wp2_with fail
 refine (err_any _ g s r2 HM.out.rd).mono ?_
 rintro e w4 ⟨rfl,rfl⟩
 go_wp2
 go_ret
 exact ⟨_,rfl,fun _ => rfl,HM.out⟩
end
end Mof
namespace Mof
open Plan Ops Ent Vn Msg Cof Wire
theorem elemU64M : Elem Tryz.prog 61 22 1 8 := ⟨Tryz.underlying61,⟨_,_,rfl,rfl,rfl,rfl,rfl⟩,by decide⟩
theorem u64s_snoc (l : List Int) (v : Int) : u64s (l ++ [v]) = u64s l ++ [.int .u64 v] := by unfold u64s;rw [List.map_append];rfl
section
variable {w W W' : World} {s : ByteArray} {g mb y : Nat} {x x' : MsgR} {r r' : RS} {v : Value} {e : Ending}
structure SS (w W : World) (s : ByteArray) (g mb y : Nat) (x : MsgR) (wr : World) (A : Option Addr) (c : Nat) (l : List Int) (r : RS) : Prop where
 rd : RdAt wr g s r
 hm : Has wr mb 63 (xcell { x with sA := A,sc := c,ss := l }).toArray
 row : NewSl 22 1 W.heap.size wr A l.length c (u64s l)
 k : Kept (fun k => k = g \/ k = mb) W wr
 ts : ∀ z ∈ l,0 <= z /\ z <= maxTs
 s0 : l = [] -> A = none /\ c = 0
theorem SS.quiet {wr w2 : World} {A : Option Addr} {c : Nat} {l : List Int} (h : SS w W s g mb y x wr A c l r) (hk : Kept NoF wr w2) : SS w W s g mb y x w2 A c l r :=
 ⟨h.rd.kept hk (fun z => z),h.hm.kept hk (fun z => z),h.row.kept hk,h.k.trans hk (fun _ z => z.elim),h.ts,h.s0⟩
theorem SS.read {wr w2 : World} {A : Option Addr} {c : Nat} {l : List Int} (o : Od w g mb y) (hW : mb < W.heap.size) (h : SS w W s g mb y x wr A c l r) (hr : RRead wr g s v r' e w2) : e = .returned v /\ SS w W s g mb y x w2 A c l r' := by
 obtain ⟨he,h1,h2⟩ := hr
 have a := o.gm
 exact ⟨he,h1,h.hm.kept h2 (by omega),⟨own_kept h.row.1 h2 (fun k hk e => by have := h.row.2 k hk;omega),h.row.2⟩,h.k.trans h2 (fun i hi => .inl (.inl hi)),h.ts,h.s0⟩
theorem SS.push {wr w5 w6 : World} {A A1 : Option Addr} {c c1 : Nat} {l : List Int} {z : Int} (o : Od w g mb y) (hW : mb < W.heap.size) (h : SS w W s g mb y x wr A c l r) (hk : Kept NoF wr w5)
  (ho : w6.ownsRow 0 22 1 (.slice A1 (l.length + 1) c1) (l.length + 1) (u64s l ++ [.int .u64 z])) (hg : w5.grownBy w6 (Value.slice A l.length c).ownBlock) (ha : (Value.slice A1 (l.length + 1) c1).ownBlock = (Value.slice A l.length c).ownBlock \/ (Value.slice A1 (l.length + 1) c1).ownBlock = some w5.heap.size) (hz : 0 <= z /\ z <= maxTs) :
  Has w6 mb 63 (xcell { x with sA := A,sc := c,ss := l }).toArray /\ SS w W s g mb y x (w6.setCell ⟨mb,20,none⟩ (.slice A1 (l.length + 1) c1)) A1 c1 (l ++ [z]) r := by
 have a := o.gm
 have hk6 : Kept (fun k => (Value.slice A l.length c).ownBlock = some k) wr w6 := Kept.grownBy (Kept.up'' hk) hg (fun k hk => .inl hk)
 have hnb : ∀ k,k < W.heap.size -> ¬ (Value.slice A l.length c).ownBlock = some k := fun k hk e => by have := h.row.2 k e;omega
 have h6 := h.hm.kept hk6 (hnb mb hW)
 have hks : Kept (fun k => k = mb) w6 (w6.setCell ⟨mb,20,none⟩ (.slice A1 (l.length + 1) c1)) := (Kept.refl _ w6).put (.inl rfl)
 have hB : W.heap.size <= w5.heap.size := Nat.le_trans h.k.size hk.size
 have hn : NewSl 22 1 W.heap.size w6 A1 (l.length + 1) c1 (u64s l ++ [.int .u64 z]) := ⟨ho,fun k hk' => by
  rcases ha with e | e
  ·exact h.row.2 k (e.symm.trans hk')
  ·have h9 := e.symm.trans hk'
   injection h9 with h9
   omega⟩
 have hlen : (l ++ [z]).length = l.length + 1 := by simp
 refine ⟨h6,⟨(h.rd.kept hk6 (hnb g (by omega))).kept hks (by omega),Has.put_of h6 (by unfold xcell;dsimp only;rw [hlen];rfl),?_,?_,?_,fun e => by simp at e⟩⟩
 ·rw [hlen,u64s_snoc]
  exact ⟨own_kept hn.1 hks (fun k hk' e => by have := hn.2 k hk';omega),hn.2⟩
 ·exact (h.k.trans hk6 (fun k hk' => .inr (h.row.2 k hk'))).trans hks (fun k hk' => .inl (.inr hk'))
 ·intro q hq
  rcases List.mem_append.1 hq with hq | hq
  ·exact h.ts q hq
  ·rw [List.mem_singleton.1 hq];exact hz
theorem SS.done {wr : World} {A : Option Addr} {c : Nat} {l : List Int} (o : Od w g mb y) (h0 : MS w s g mb y W x r') (h : SS w W s g mb y x wr A c l r) (hl : l.length <= 100) : MS w s g mb y wr { x with sA := A,sc := c,ss := l } r := by
 have a := o.yg;have b := o.gm
 have hw : mb + 1 <= W.heap.size := h0.hm.lt
 have hx := h0.at'.kept h.k (fun k hk => by omega)
 refine ⟨h.rd,h.hm,h0.hy.kept h.k (by omega),⟨hx.m,hx.mc,hx.mn,hx.ml,hx.o,hx.oc,hx.on,hx.e,hx.ec,hx.en,hx.el,hx.eo,⟨h.row.1,fun k hk => by have := h.row.2 k hk;omega⟩,hl,h.ts,hx.p,hx.pc,hx.pn,hx.pl,hx.t,h.s0,hx.pm⟩,h0.k.trans h.k (fun i hi => .inl hi)⟩
theorem read_83 (o : Od w g mb y) (h : MS w s g mb y W x r) (hs : s.size <= maxLen) (h0 : x.ss = []) :
  Calls Tryz.prog 60 #[.pointer (some ⟨g,0,none⟩),.pointer (some ⟨mb,0,none⟩),.int .i32 (((83 : Nat)) : Int)] W (ReadPost w s g mb y 83 x r) := by
 have hnum := fun W => num_none W mb 83 (by decide) (by decide)
 have hrd := num_any W g s r 8 h.rd hs (by decide)
 have hn8 := rNum_le s 8 r
 have hmw : mb < W.heap.size := h.hm.lt
 obtain ⟨hA0,hc0⟩ := h.at'.s0 h0
 have hxe : x = { x with sA := none,sc := 0,ss := [] } := by
  cases x
  dsimp only at h0 hA0 hc0
  subst h0 hA0 hc0
  rfl
 have hp : readP s 83 (strip x) r = ({ strip x with ss := x.ss ++ (rStamps s (rNum s 8 r).1 (rNum s 8 r).2).1 },(rStamps s (rNum s 8 r).1 (rNum s 8 r).2).2,(rStamps s (rNum s 8 r).1 (rNum s 8 r).2).2.2) := rfl
 rw [h0,List.nil_append] at hp
 have hfin : ∀ W' A c,SS w W s g mb y x W' A c (rStamps s (rNum s 8 r).1 (rNum s 8 r).2).1 (rStamps s (rNum s 8 r).1 (rNum s 8 r).2).2 -> ReadPost w s g mb y 83 x r (.returned (.int .i64 (rStamps s (rNum s 8 r).1 (rNum s 8 r).2).2.2)) W' := fun W' A c hss => by
  refine ⟨{ x with sA := A,sc := c,ss := (rStamps s (rNum s 8 r).1 (rNum s 8 r).2).1 },by rw [hp],fun _ => by rw [hp];rfl,by rw [hp];exact hss.done o h (by rw [rStamps_len];omega)⟩
 obtain ⟨q,hq⟩ : ∃ q,rNum s 8 r = q := ⟨_,rfl⟩
 rw [hq] at hrd hn8
 simp only [hq] at hfin
 obtain ⟨n,r3⟩ := q
 dsimp only at hrd hn8 hfin
 have hsw : SS w W s g mb y x W none 0 [] r := ⟨h.rd,by rw [<- hxe];exact h.hm,⟨⟨rfl,.inl ⟨rfl,rfl⟩⟩,fun k hk => by simp [Value.ownBlock] at hk⟩,Kept.refl _ _,(fun z hz => by cases hz),fun _ => ⟨rfl,rfl⟩⟩
 have HN := hZ0 hnum;have HRD := hZ0 hrd;have HSW := hZ0 hsw;have HO := hZ0 o;have HFIN := hZ0 hfin;have HMW := hZ0 hmw;have HN8 := hZ0 hn8
 clear hnum hrd hsw h hq hp o hfin hxe hA0 hc0 h0 hmw hn8
 generalize ReadPost w s g mb y 83 x r = Q at HFIN ⊢
 go_enter Tryz.func60,Tryz.ntmps60
 go_wp2_with fail
 refine (HN.out W).mono ?_
 rintro e w2 ⟨rfl,rfl⟩
 go_wp2_with fail
 refine HRD.out.mono ?_
 intro e w3 hr
 obtain ⟨rfl,hss⟩ := HSW.out.read HO.out HMW.out hr
 have HSS := hZ0 hss
 clear hr hss HSW HRD
 go_wp2_with fail
 go_loopw [63] (fun v63 wr => ∃ (i : Nat) (A : Option Addr) (c : Nat),i <= n /\ v63 = .int .i64 i /\ SS w W s g mb y x wr A c (rStamps s i r3).1 (rStamps s i r3).2) (fun v63 _ => n - (intOf v63).toNat)
 case atStart => exact ⟨0,none,0,Nat.zero_le _,rfl,HSS.out⟩
 case round =>
  obtain ⟨i,A,c,hi,rfl,hss⟩ := hrel
  clear HSS
  by_cases hin : i < n
  ·have hlen := rStamps_len s r3 i
   have hstep : rStamps s (i + 1) r3 = ((rStamps s i r3).1 ++ [((rBig s (rStamps s i r3).2).1 : Int)],(rBig s (rStamps s i r3).2).2) := rfl
   have hts := big_ts s (rStamps s i r3).2
   obtain ⟨l,hl⟩ : ∃ l,(rStamps s i r3).1 = l := ⟨_,rfl⟩
   obtain ⟨r4,hr4⟩ : ∃ r4,(rStamps s i r3).2 = r4 := ⟨_,rfl⟩
   rw [hl] at hlen
   rw [hl,hr4] at hss hstep
   rw [hr4] at hts
   have hbig : ∀ W1,Kept NoF wr W1 -> Calls Tryz.prog 102 #[.pointer (some ⟨g,0,none⟩)] W1 fun e w5 => e = .returned (.int .u64 (rBig s r4).1) /\ SS w W s g mb y x w5 A c l (rBig s r4).2 := fun W1 hW => (rbig_any W1 g s r4 (hss.quiet hW).rd hs).mono fun e w5 hr => (hss.quiet hW).read HO.out HMW.out hr
   obtain ⟨q,hq⟩ : ∃ q,rBig s r4 = q := ⟨_,rfl⟩
   rw [hq] at hstep hts
   simp only [hq] at hbig
   obtain ⟨nb,r5⟩ := q
   dsimp only at hstep hts hbig
   have m0 : wr.cell? ⟨mb,20,none⟩ = some (.slice A l.length c) := hss.hm.cell 20
   have f0 := hss.hm.frozen 20
   rw [hlen] at m0
   have hm0 : ∀ W1,Kept NoF wr W1 -> W1.cell? ⟨mb,20,none⟩ = some (.slice A i c) := fun W1 hW => by rw [<- hlen];exact (hss.quiet hW).hm.cell 20
   have HSTEP := hZ0 hstep;have HTS := hZ0 hts;have HBIG := hZ0 hbig;have HLEN := hZ0 hlen;have HM0 := hZ0 hm0
   have HM1 : Hid (i + 1 <= maxLen) := hZ0 (by unfold maxLen;have := HN8.out;omega)
   have HM2 : Hid ((i + 1) * 8 <= 140737488355328) := hZ0 (by have := HN8.out;omega)
   clear hstep hts hbig hl hr4 hq hlen hss hm0
   go_wp2_with fail
   go_region_law (first
    | (go_simp;go_at_call 102;refine (HBIG.out _ (by (repeat' (first | (with_reducible first | exact kR0 | apply kP0 | apply kN0 | apply kD0 | apply kA0) | (right;simp;done))))).mono ?_;rintro e w5 ⟨rfl,hs5⟩;have m5 : w5.cell? ⟨mb,20,none⟩ = some (.slice A i c) := (by rw [<- HLEN.out];exact hs5.hm.cell 20);have HS5 := hZ0 hs5;have hmlt : mb < w5.heap.size := hs5.hm.lt;clear hs5)
    | (with_reducible apply step_append_src elemU64M (.tmp 69) (.tmp 72) (n := i) (xs := u64s l) (A := some ⟨_,0,none⟩) (m := 1) (c := 1) (news := [.int .u64 nb])
       rfl
       rfl
       exact (rfl : _ = Value.slice A i c)
       (refine own_kept (F := NoF) (by rw [<- HLEN.out];exact HS5.out.row.1) ?_ (fun _ _ x => x);(repeat' (first | (with_reducible first | exact kR0 | apply kP0 | apply kN0 | apply kD0 | apply kA0) | (right;simp;done))))
       exact (rfl : _ = Value.slice (some ⟨_,0,none⟩) 1 1)
       (refine Src.of_has (t := 22) (cs := #[.int .u64 nb]) ?_ rfl;(repeat (first | with_reducible exact Has.new_at _ _ _ (by simp) | with_reducible apply Has.drew | with_reducible apply Has.drewN | with_reducible apply Has.alloc | (with_reducible apply Has.past <;> (try omega)) )))
       (intro u hu;simp at hu;rcases hu with rfl;rfl)
       exact HM1.out
       exact HM2.out
       intro A6 c6 w6 ho6 hg6 ha6
       rw [<- HLEN.out] at ho6 hg6 ha6
       obtain ⟨h6,hs6⟩ := SS.push (z := (nb : Int)) HO.out HMW.out HS5.out (by (repeat' (first | (with_reducible first | exact kR0 | apply kP0 | apply kN0 | apply kD0 | apply kA0) | (right;simp;done)))) ho6 hg6 ha6 HTS.out
       have c6' : w6.cell? ⟨mb,20,none⟩ = some (.slice A l.length c) := h6.cell 20
       have f6' := h6.frozen 20
       rw [HLEN.out] at hs6
       have HS6 := hZ0 hs6;clear ho6 hg6 ha6 h6 hs6))
   all_goals
    clear c6' f6'
    have hn8 := HN8.out
    go_wp2
    go_roundw
    case rel => exact ⟨i + 1,A6,c6,by omega,by go_num,by rw [HSTEP.out];exact HS6.out⟩
    case measure => simp [intOf];omega
  ·obtain rfl : i = n := by omega
   have HF := hZ0 (HFIN.out wr A c hss)
   have HSS := hZ0 hss
   clear hss HFIN
   go_wp2_with fail
   refine (err_any _ g s _ HSS.out.rd).mono ?_
   rintro e w4 ⟨rfl,rfl⟩
   go_wp2
   exact HF.out
theorem read_any (o : Od w g mb y) (h : MS w s g mb y W x r) (hs : s.size <= maxLen) {c : Nat} (hc : c ∈ letters) (h0 : c = 83 -> x.ss = []) :
  Calls Tryz.prog 60 #[.pointer (some ⟨g,0,none⟩),.pointer (some ⟨mb,0,none⟩),.int .i32 ((c : Nat) : Int)] W (ReadPost w s g mb y c x r) := by
 by_cases hn : isNum c = true
 ·exact read_num o h hs hn
 have hcase : c = 67 \/ c = 97 \/ c = 102 \/ c = 108 \/ c = 69 \/ c = 83 \/ c = 66 \/ c = 120 \/ c = 107 \/ c = 116 \/ c = 82 := by
  unfold letters at hc
  simp only [List.mem_cons,List.not_mem_nil,or_false] at hc
  have h2 : ¬ (c = 101 \/ c = 115 \/ c = 114 \/ c = 110 \/ c = 109 \/ c = 112) := fun h => hn (decide_eq_true h)
  omega
 rcases hcase with rfl | rfl | rfl | rfl | rfl | rfl | rfl | rfl | rfl | rfl | rfl
 ·exact read_67 o h hs
 ·exact read_97 o h hs
 ·exact read_102 o h hs
 ·exact read_108 o h hs
 ·exact read_69 o h hs
 ·exact read_83 o h hs (h0 rfl)
 ·exact read_66 o h hs
 ·exact read_120 o h hs
 ·exact read_107 o h hs
 ·exact read_116 o h hs
 ·exact read_82 o h hs
end
theorem fite {α β : Type} {p : Prop} [Decidable p] {a b : α} {f : α -> β} {v : β} (ha : p -> f a = v) (hb : ¬ p -> f b = v) : f (if p then a else b) = v := by
 by_cases h : p
 ·rw [if_pos h];exact ha h
 ·rw [if_neg h];exact hb h
theorem setNum_ss (x : MsgR) (c : Nat) (v : Int) : (setNum x c v).ss = x.ss /\ (setNum x c v).k = x.k := by
 unfold setNum
 by_cases h1 : c = 101
 ·rw [if_pos h1];exact ⟨rfl,rfl⟩
 rw [if_neg h1]
 by_cases h2 : c = 115
 ·rw [if_pos h2];exact ⟨rfl,rfl⟩
 rw [if_neg h2]
 by_cases h3 : c = 114
 ·rw [if_pos h3];exact ⟨rfl,rfl⟩
 rw [if_neg h3]
 by_cases h4 : c = 110
 ·rw [if_pos h4];exact ⟨rfl,rfl⟩
 rw [if_neg h4]
 by_cases h5 : c = 109
 ·rw [if_pos h5];exact ⟨rfl,rfl⟩
 rw [if_neg h5]
 exact ⟨rfl,rfl⟩
theorem readP_ss (s : ByteArray) {c : Nat} (hc : c ≠ 83) (x : MsgR) (r : RS) : (readP s c x r).1.ss = x.ss := by
 unfold readP
 refine fite (f := fun q : MsgR × RS × Int => q.1.ss) (fun _ => (setNum_ss _ _ _).1) (fun _ => ?_)
 refine fite (f := fun q : MsgR × RS × Int => q.1.ss) (fun _ => rfl) (fun _ => ?_)
 refine fite (f := fun q : MsgR × RS × Int => q.1.ss) (fun _ => rfl) (fun _ => ?_)
 refine fite (f := fun q : MsgR × RS × Int => q.1.ss) (fun _ => rfl) (fun _ => ?_)
 refine fite (f := fun q : MsgR × RS × Int => q.1.ss) (fun h => absurd h hc) (fun _ => ?_)
 iterate 7 refine fite (f := fun q : MsgR × RS × Int => q.1.ss) (fun _ => rfl) (fun _ => ?_)
 rfl
theorem readP_k (s : ByteArray) (c : Nat) (x : MsgR) (r : RS) : (readP s c x r).1.k = x.k := by
 unfold readP
 refine fite (f := fun q : MsgR × RS × Int => q.1.k) (fun _ => (setNum_ss _ _ _).2) (fun _ => ?_)
 iterate 11 refine fite (f := fun q : MsgR × RS × Int => q.1.k) (fun _ => rfl) (fun _ => ?_)
 rfl
theorem readL_app (s : ByteArray) (a b : List Nat) (x : MsgR) (r : RS) : readL s (a ++ b) x r = if (readL s a x r).2.2 ≠ 0 then readL s a x r else readL s b (readL s a x r).1 (readL s a x r).2.1 := by
 induction a generalizing x r with
 | nil => rfl
 | cons c a ih =>
  show readL s (c :: (a ++ b)) x r = _
  rw [readL,readL]
  by_cases h : (readP s c x r).2.2 ≠ 0
  ·rw [if_pos h,if_pos h,if_pos h]
  ·rw [if_neg h,if_neg h,ih]
theorem readL_one (s : ByteArray) (c : Nat) (x : MsgR) (r : RS) : readL s [c] x r = if (readP s c x r).2.2 ≠ 0 then readP s c x r else ((readP s c x r).1,(readP s c x r).2.1,0) := by
 rw [readL]
 rfl
theorem readL_ss (s : ByteArray) (l : List Nat) (hl : 83 ∉ l) (x : MsgR) (r : RS) : (readL s l x r).1.ss = x.ss := by
 induction l generalizing x r with
 | nil => rfl
 | cons c l ih =>
  have h1 : c ≠ 83 := fun e => hl (by rw [e];exact List.mem_cons_self ..)
  have h2 : 83 ∉ l := fun e => hl (List.mem_cons_of_mem _ e)
  rw [readL]
  split
  ·exact readP_ss s h1 x r
  ·rw [ih h2,readP_ss s h1]
theorem parts_83 (k : Int) (i : Nat) (h : (partsOf k)[i]? = some 83) : 83 ∉ (partsOf k).take i := by
 have hi : i < 8 := by have h1 := (List.getElem?_eq_some_iff.1 h).1;have := parts_len k;omega
 by_cases hk : 1 <= k /\ k <= 15
 ·have h1 : k = 1 \/ k = 2 \/ k = 3 \/ k = 4 \/ k = 5 \/ k = 6 \/ k = 7 \/ k = 8 \/ k = 9 \/ k = 10 \/ k = 11 \/ k = 12 \/ k = 13 \/ k = 14 \/ k = 15 := by omega
  have hd : ∀ n : Nat,n < 16 -> ∀ i,i < 8 -> (partsOf n)[i]? = some 83 -> 83 ∉ (partsOf n).take i := by decide
  have := hd k.toNat (by omega) i hi
  rw [Int.toNat_of_nonneg (by omega)] at this
  exact this h
 ·unfold partsOf at h
  rw [if_neg hk] at h
  cases h
end Mof
end Go.Proofs.YtgbigpdiacjbgaaGreat

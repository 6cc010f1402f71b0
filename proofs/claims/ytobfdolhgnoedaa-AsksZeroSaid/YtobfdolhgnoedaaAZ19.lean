/- Part 20 of what the proof needs. -/
import Derived.Test.YtobfdolhgnoedaaAZ17
import Derived.Test.YtobfdolhgnoedaaAZ18
set_option linter.unusedSimpArgs false
set_option linter.unusedVariables false
set_option maxHeartbeats 32000000
set_option maxRecDepth 100000
namespace Go.Proofs.Ytobfdolhgnoedaa
open Go.RowKit
set_option maxRecDepth 100000
namespace Ask
open Plan Ops Ent Msg MO Vn
attribute [local go_sem ↓] storeVar_msg loadVar_msg
theorem askA_good (w : World) : QGood w askA := ⟨Src.nil _ _ _,Nat.le_refl _,by show (0 : Nat) <= maxLen;unfold maxLen;decide,fun o ho => (by cases ho),by unfold I64;decide,by unfold I64;decide,by unfold I64;decide,by unfold maxTs;decide,by show (0 : Nat) <= maxLen;unfold maxLen;decide,by show (0 : Nat) <= maxLen;unfold maxLen;decide⟩
theorem awake_a (w : World) : Calls Try.prog 8 #[] w fun e w' => e = .returned (.bool true) /\ Kept NoF w w' := by
 have hnew := pnew_any w 0 3 askA (askA_good w) (by decide)
 have HNEW := hZ0 hnew
 clear hnew
 unfold askA qagg qcell at HNEW
 dsimp only [List.length_nil] at HNEW
 go_enter Try.func8,Try.ntmps8
 go_wp2_with fail
 refine HNEW.out.mono ?_
 rintro e w1 ⟨-,hp⟩
 obtain ⟨X,rfl,hp,hft,hk1⟩ := hp askA_ok
 have hok := TOk.new (cl := 0) (rq := 3) (a := askA) (by unfold I64;decide) askA_ok
 have hp' : PAt w1 X (newT 0 3 askA) := hp
 have hnx := pnext_any hp' hok (by decide) 0 (-1)
 unfold NextPost at hnx
 rw [askA_next] at hnx
 have HNX := hZ0 hnx;have HP := hZ0 hp';have HK1 := hZ0 hk1;have HFT := hZ0 (show ∀ k,foot X (newT 0 3 askA) k -> w.heap.size <= k from hft);have HOK := hZ0 hok
 clear hnx hp hp' hk1 hft hok HNEW
 go_wp2_with fail
 refine HNX.out.mono ?_
 rintro e w2 ⟨A2,c2,rfl,-,-,-,hk2⟩
 obtain ⟨Wz,W3,hWz,hst,hb3,hk3⟩ := lay_msg w2 { zmsg with k := 9,req := 3,at' := 5,n := 2,oA := A2,oc := c2 }
 have HK3 := hZ0 (hk2.then hk3);have HB3 := hZ0 hb3
 have HK13 := hZ0 (HK1.out.then (hk2.then hk3))
 unfold xcell zmsg at hst
 dsimp only [List.length_nil] at hst
 unfold xagg xcell zmsg
 dsimp only [List.length_nil]
 obtain ⟨x2,hx2⟩ : ∃ x2,w2.heap.size = x2 := ⟨_,rfl⟩
 rw [hx2] at hst HB3
 have HX2 := hZ0 (And.intro hx2 hk2.size)
 -- the pairs,the message
 obtain ⟨W4,hW4⟩ : ∃ W4,W3.alloc (.cells (pcells prsA).toArray 68) = W4 := ⟨_,rfl⟩
 have hk4 : Kept NoF W3 W4 := by rw [<- hW4];(repeat' (first | (with_reducible first | exact kR0 | apply kP0 | apply kN0 | apply kD0 | apply kA0) | (right;simp;done)))
 have hn4 : Has W4 W3.heap.size 68 (pcells prsA).toArray := by rw [<- hW4];exact Has.new _ _ _
 have hp4 := HP.out.quiet (HK3.out.then hk4)
 have htk : ∀ c,2 <= c -> c <= maxLen -> Calls Try.prog 11 #[.pointer (some ⟨X.b,0,none⟩),.int .i64 1,xagg (msgA W3.heap.size c)] W4 (PPost W4 X (newT 0 3 askA) (.bool true) tsA) := fun c h1 h2 => by
  have := ptake_any hp4 HOK.out 1 (msgA W3.heap.size c) ⟨Src.of_has (m := 2) (size := 2) hn4 rfl,⟨h1,h2⟩,fun _ ad e hf => by
   have e2 : ad = ⟨W3.heap.size,0,none⟩ := by have e3 : some (⟨W3.heap.size,0,none⟩ : Addr) = some ad := e;injection e3 with e3;exact e3.symm
   subst e2
   have h9 : W3.heap.size < w1.heap.size := HP.out.lt hf
   have := HK3.out.size;omega,fun y hy => by
   unfold maxLen
   rcases List.mem_cons.1 hy with rfl | hy
   ·decide
   ·rcases List.mem_cons.1 hy with rfl | hy
    ·decide
    ·cases hy⟩
  rw [askA_take] at this
  exact this
 have HTK := hZ0 htk;have HK4 := hZ0 hk4
 unfold msgA prsA xagg xcell zmsg at HTK
 dsimp only [List.length_cons,List.length_nil] at HTK
 simp only [pcells,pcell,prsA,List.flatMap_cons,List.flatMap_nil,List.cons_append,List.nil_append] at hW4
 clear hk2 hk3 hb3 hk4 hn4 hp4 htk
 go_wp2_with fail
 clear hW4 hWz hst hx2
 refine (HTK.out 2 (by decide) (by unfold maxLen;decide)).mono ?_
 rintro e w5 ⟨rfl,X',hp5,hb5,hft5,hk5⟩
 have hok5 : TOk tsA := by
  have := HOK.out.take 1 (msgA 0 0)
  rw [askA_take] at this
  exact this
 have hnx := pnext_any hp5 hok5 (by decide) 0 (-1)
 unfold NextPost at hnx
 rw [askA_next2,hb5] at hnx
 have hbx := (HB3.out.kept HK4.out (fun z => z)).kept hk5 (fun hf => by have h9 := HP.out.lt hf;have := HX2.out;omega)
 have HNX2 := hZ0 hnx;have HBX := hZ0 hbx;have HK5 := hZ0 hk5
 clear hnx hbx hp5 hb5 hft5 hk5 hok5
 go_wp2_with fail
 refine HNX2.out.mono ?_
 rintro e w6 ⟨A6,c6,rfl,-,-,-,hk6⟩
 obtain ⟨Wy,W7,hWy,hst,hb7,hk7⟩ := lay_msg w6 { zmsg with k := 9,req := 3,key := ⟨#[98,0]⟩,at' := 5,n := 1,oA := A6,oc := c6 }
 have hbx := (HBX.out.kept hk6 (fun z => z)).kept hk7 (fun z => z)
 have g0 : W7.cell? ⟨x2,0,none⟩ = some (.int .i64 9) := hbx.cell 0
 have g7 : W7.cell? ⟨x2,7,none⟩ = some (.int .i64 2) := hbx.cell 7
 unfold xcell zmsg at hst hb7
 dsimp only [List.length_nil] at hst hb7
 unfold xagg xcell zmsg
 dsimp only [List.length_nil]
 obtain ⟨x6,hx6⟩ : ∃ x6,w6.heap.size = x6 := ⟨_,rfl⟩
 rw [hx6] at hst hb7
 have f7 : W7.cell? ⟨x6,7,none⟩ = some (.int .i64 1) := hb7.cell 7
 have f11 : W7.cell? ⟨x6,11,none⟩ = some (.string ⟨#[98,0]⟩) := hb7.cell 11
 have HE := hZ0 (show Kept NoF w W7 from (((HK13.out.then HK4.out).mono (G := foot X (newT 0 3 askA)) (fun _ z => z.elim)).then HK5.out).trans (hk6.then hk7) (fun _ z => z.elim) |>.trans (Kept.refl NoF W7) (fun _ z => z.elim) |> fun h => ⟨h.os,h.tape,h.output,h.size,fun k hk _ => h.block k hk (fun hf => by have := HFT.out k hf;omega)⟩)
 clear hbx hb7 hk6 hk7
 go_wp2
 go_ret
 exact ⟨rfl,HE.out⟩
def actZ (m : MsgR) : ActR := ⟨0,0,0,m⟩
def askZ : AskR := ⟨0,0,⟨#[]⟩,⟨#[]⟩,0,0,none,0,[]⟩
theorem law_zeroA (w : World) (n : Int) (m : MsgR) (hm : MGood w m) : Calls Try.prog 3 #[.int .i64 n,xagg m] w fun e w' => e = .returned (.bool true) /\ Below w.heap.size w w' := by
 have hend : ∀ w',Kept NoF w w' -> Below w.heap.size w w' := fun w' hk => hk.below (Nat.le_refl _) (fun _ z => z.elim)
 obtain ⟨W0,hW0⟩ : ∃ W0,w.alloc (.cells (xcell m).toArray 34) = W0 := ⟨_,rfl⟩
 have hk0 : Kept NoF w W0 := by rw [<- hW0];(repeat' (first | (with_reducible first | exact kR0 | apply kP0 | apply kN0 | apply kD0 | apply kA0) | (right;simp;done)))
 have hn0 : Has W0 w.heap.size 34 (xcell m).toArray := by rw [<- hW0];exact Has.new _ _ _
 have hlm : ∀ W,Kept NoF W0 W -> (loadMsg ⟨w.heap.size,0,none⟩).run Try.prog W = .ok (.agg (xcell m).toArray) W := fun W hW => run_loadMsg_has _ _ _ (hn0.kept hW (fun z => z))
 obtain ⟨W1,hW1⟩ : ∃ W1,W0.alloc (.cells (acell (actZ m)).toArray 39) = W1 := ⟨_,rfl⟩
 have hk1 : Kept NoF W0 W1 := by rw [<- hW1];(repeat' (first | (with_reducible first | exact kR0 | apply kP0 | apply kN0 | apply kD0 | apply kA0) | (right;simp;done)))
 have hn1 : Has W1 W0.heap.size 39 (acell (actZ m)).toArray := by rw [<- hW1];exact Has.new _ _ _
 have hsrc : Src W1 25 (some ⟨W0.heap.size,0,none⟩) 1 (acells [actZ m]) := by
  have := Src.of_has (m := 1) (size := 25) hn1 rfl
  simpa [acells] using this
 have hfew := few_any W1 askZ ⟨by decide,by decide,by decide⟩ (some ⟨W0.heap.size,0,none⟩) 1 [actZ m] hsrc (fun a ha => by
  rcases List.mem_cons.1 ha with rfl | ha
  ·exact ⟨hm.lens.1,hm.lens.2.1,hm.lens.2.2.1,hm.lens.2.2.2.1,hm.lens.2.2.2.2⟩
  ·cases ha)
 obtain ⟨fv,hfv⟩ : ∃ fv,(fewQ askZ && fewP [actZ m]) = fv := ⟨_,rfl⟩
 rw [hfv] at hfew
 have haw := fun W => awake_a W
 have HEND := hZ0 hend;have HFEW := hZ0 hfew;have HAW := hZ0 haw;have HK0 := hZ0 hk0;have HK1 := hZ0 hk1;have HLM := hZ0 hlm
 have hl0 := hlm W0 (Kept.refl _ _)
 obtain ⟨cs,hcs⟩ : ∃ cs,(xcell m).toArray = cs := ⟨_,rfl⟩
 rw [hcs] at HLM
 unfold acell actZ at hW1
 dsimp only at hW1
 unfold askZ qagg qcell at HFEW
 dsimp only [List.length_nil,List.length_cons] at HFEW
 unfold xagg
 unfold xcell at hW0 hW1 hl0
 unfold xcell
 clear hend hfew haw hk0 hk1 hlm hn0 hn1 hsrc hfv hm hcs
 go_enter Try.func3,Try.ntmps3
 go_wp2_with fail
 clear hW0 hW1 hl0
 refine HFEW.out.mono ?_
 rintro e w2 ⟨rfl,hk2⟩
 have HK2 := hZ0 (HK0.out.then (HK1.out.then hk2));have HK02 := hZ0 (HK1.out.then hk2);clear hk2
 cases fv
 ·go_wp2_with fail
  refine (HAW.out _).mono ?_
  rintro e w3 ⟨rfl,hk3⟩
  have HE := hZ0 (HEND.out _ (HK2.out.then hk3));clear hk3
  go_wp2
  go_ret
  exact ⟨rfl,HE.out⟩
 obtain ⟨W3,hW3⟩ : ∃ W3,w2.alloc (.cells #[.nilIface,.int .i64 0,.int .i64 0,.bool false,.int .i64 0,.int .i64 0,.int .u64 0,.int .i64 0,.slice none 0 0] 48) = W3 := ⟨_,rfl⟩
 have hk3 : Kept NoF w2 W3 := by rw [<- hW3];(repeat' (first | (with_reducible first | exact kR0 | apply kP0 | apply kN0 | apply kD0 | apply kA0) | (right;simp;done)))
 have hz3 : NoT W3 (some ⟨w2.heap.size,0,none⟩) := .inr ⟨_,rfl,by rw [<- hW3];exact Has.new _ _ _⟩
 have HNN := hZ0 (show ∀ W,NoT W none from fun W => .inl rfl)
 have HZ := hZ0 (show ∀ W,Kept NoF W3 W -> NoT W (some ⟨w2.heap.size,0,none⟩) from fun W hW => hz3.kept hW)
 have hnx := ztnext (HNN.out W3) n n
 have HNX := hZ0 hnx
 unfold xagg xcell zmsg at HNX
 dsimp only [List.length_nil] at HNX
 have HK3 := hZ0 hk3
 clear hk3 hz3 hnx
 go_wp2_with fail
 clear hW3
 refine HNX.out.mono ?_
 rintro e w4 ⟨rfl,hk4⟩
 obtain ⟨Wz,W5,hWz,hst,hb5,hk5⟩ := lay_msg w4 zmsg
 obtain ⟨bx,hbx⟩ : ∃ bx,w4.heap.size = bx := ⟨_,rfl⟩
 rw [hbx] at hst hb5
 have hnx := ztnext (HZ.out W5 (hk4.then hk5)) n n
 have HNX5 := hZ0 hnx;have HB5 := hZ0 hb5;have HK5 := hZ0 (hk4.then hk5)
 unfold xagg xcell zmsg at HNX5
 unfold xcell zmsg at hst
 dsimp only [List.length_nil] at HNX5 hst
 clear hk4 hk5 hb5 hnx
 go_wp2_with fail
 clear hWz hst hbx
 refine HNX5.out.mono ?_
 rintro e w6 ⟨rfl,hk6⟩
 obtain ⟨Wy,W7,hWy,hst,hb7,hk7⟩ := lay_msg w6 zmsg
 obtain ⟨bz,hbz⟩ : ∃ bz,w6.heap.size = bz := ⟨_,rfl⟩
 rw [hbz] at hst hb7
 have hdn := ztdone (HNN.out W7)
 have HDN := hZ0 hdn;have HB7 := hZ0 hb7;have HK7 := hZ0 (hk6.then hk7)
 unfold ragg rcell rep0 at HDN
 unfold xcell zmsg at hst
 dsimp only [List.length_nil] at HDN hst
 clear hk6 hk7 hb7 hdn
 go_wp2_with fail
 clear hWy hst hbz
 refine HDN.out.mono ?_
 rintro e w8 ⟨rfl,hk8⟩
 have hdn := fun W (hW : Kept NoF W3 W) => ztdone (HZ.out W hW)
 have HDNZ := hZ0 hdn;have HK8 := hZ0 (HK5.out.then (HK7.out.then hk8));have HB8 := hZ0 (HB5.out.kept (HK7.out.then hk8) (fun z => z));have HB8y := hZ0 (HB7.out.kept hk8 (fun z => z))
 unfold ragg rcell rep0 at HDNZ
 dsimp only [List.length_nil] at HDNZ
 clear hk8 hdn
 go_wp2_with fail
 refine (HDNZ.out _ (by (repeat' (first | (with_reducible first | exact kR0 | apply kP0 | apply kN0 | apply kD0 | apply kA0) | (exact HK8.out) | (right;simp;done))))).mono ?_
 rintro e w10 ⟨rfl,hk10⟩
 have hks10 : Kept NoF w8 w10 := Kept.then (by (repeat' (first | (with_reducible first | exact kR0 | apply kP0 | apply kN0 | apply kD0 | apply kA0) | (right;simp;done)))) hk10
 have HK10 := hZ0 hks10
 have HTKF := hZ0 (fun W => zttake (HNN.out W) n cs);have HTKZ := hZ0 (fun W (hW : Kept NoF W3 W) => zttake (HZ.out W hW) n cs)
 have hld : ∀ W,Kept NoF w8 W -> (loadMsg ⟨w.heap.size,0,none⟩).run Try.prog W = .ok (.agg cs) W /\ W.cell? ⟨bx,0,none⟩ = some (.int .i64 0) /\ W.cell? ⟨bz,0,none⟩ = some (.int .i64 0) := fun W hW => ⟨HLM.out W (HK02.out.then (HK3.out.then (HK8.out.then hW))),(HB8.out.kept hW (fun z => z)).cell 0,(HB8y.out.kept hW (fun z => z)).cell 0⟩
 have HLD := hZ0 hld
 obtain ⟨l1,l2,l3⟩ := hld w10 hks10
 obtain ⟨W11,hW11⟩ : ∃ W11,w10.alloc (.cells #[.int .i64 0,.int .i64 0,.int .u64 0,.int .i64 0,.slice none 0 0] 46) = W11 := ⟨_,rfl⟩
 have hk11 : Kept NoF w10 W11 := by rw [<- hW11];(repeat' (first | (with_reducible first | exact kR0 | apply kP0 | apply kN0 | apply kD0 | apply kA0) | (right;simp;done)))
 have hn11 : Has W11 w10.heap.size 46 #[.int .i64 0,.int .i64 0,.int .u64 0,.int .i64 0,.slice none 0 0] := by rw [<- hW11];exact Has.new _ _ _
 have s0 := hn11.cell 0;have s1 := hn11.cell 1;have s2 := hn11.cell 2;have s3 := hn11.cell 3;have s4 := hn11.cell 4
 have sf0 := hn11.frozen 0;have sf1 := hn11.frozen 1;have sf2 := hn11.frozen 2;have sf3 := hn11.frozen 3;have sf4 := hn11.frozen 4
 simp at s0 s1 s2 s3 s4
 obtain ⟨bq,hbq⟩ : ∃ bq,w10.heap.size = bq := ⟨_,rfl⟩
 rw [hbq] at s0 s1 s2 s3 s4 sf0 sf1 sf2 sf3 sf4
 obtain ⟨W12,hW12⟩ : ∃ W12,(((((W11.setCell ⟨bq,0,none⟩ (.int .i64 0)).setCell ⟨bq,1,none⟩ (.int .i64 0)).setCell ⟨bq,2,none⟩ (.int .u64 0)).setCell ⟨bq,3,none⟩ (.int .i64 0)).setCell ⟨bq,4,none⟩ (.slice none 0 0)) = W12 := ⟨_,rfl⟩
 have hk12 : Kept NoF w8 W12 := by
  have h9 : w8.heap.size <= bq := by rw [<- hbq];exact hks10.size
  rw [<- hW12];(repeat' (first | (with_reducible first | exact kR0 | apply kP0 | apply kN0 | apply kD0 | apply kA0) | (first | exact hks10.then hk11 | (right;exact h9)) | (right;simp;done)))
 obtain ⟨n1,n2,n3⟩ := hld W12 hk12
 have HK12 := hZ0 hk12
 clear hk10 hks10 hld hk11 hn11 hk12
 go_wp2_with fail
 clear hW11 hW12 s0 s1 s2 s3 s4 sf0 sf1 sf2 sf3 sf4 l1 l2 l3 n1 n2 n3
 refine (HTKF.out _).mono ?_
 rintro e w13 ⟨rfl,hk13⟩
 have hk := HK12.out.then hk13
 obtain ⟨n1,n2,n3⟩ := HLD.out w13 hk
 have HK13 := hZ0 hk
 clear hk13 hk
 go_wp2_with fail
 clear n1 n2 n3
 refine (HTKZ.out _ (HK8.out.then HK13.out)).mono ?_
 rintro e w14 ⟨rfl,hk14⟩
 have HK14 := hZ0 (HK8.out.then (HK13.out.then hk14));clear hk14
 go_wp2_with fail
 refine (ztick (HNN.out w14)).mono ?_
 rintro e w15 ⟨rfl,rfl⟩
 go_wp2_with fail
 refine (ztick (HZ.out w14 HK14.out)).mono ?_
 rintro e w15 ⟨rfl,rfl⟩
 go_wp2_with fail
 refine (ztwrites (HNN.out w14)).mono ?_
 rintro e w15 ⟨rfl,rfl⟩
 go_wp2_with fail
 refine (ztwrites (HZ.out w14 HK14.out)).mono ?_
 rintro e w15 ⟨rfl,rfl⟩
 go_wp2_with fail
 refine (HAW.out w14).mono ?_
 rintro e w15 ⟨rfl,hk15⟩
 have HE := hZ0 (HEND.out _ (HK2.out.then (HK3.out.then (HK14.out.then hk15))));clear hk15
 go_wp2
 go_ret
 exact ⟨rfl,HE.out⟩
end Ask
end Go.Proofs.Ytobfdolhgnoedaa

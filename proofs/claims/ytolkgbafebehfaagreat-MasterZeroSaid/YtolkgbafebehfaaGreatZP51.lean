/- Part 52 of what the proof needs. -/
import Derived.Test.YtolkgbafebehfaaGreatZP50
set_option linter.unusedSimpArgs false
set_option linter.unusedVariables false
set_option maxHeartbeats 32000000
set_option maxRecDepth 100000
namespace Go.Proofs.YtolkgbafebehfaaGreat
open Go.RowKit
set_option maxRecDepth 100000
namespace dM
open aP Vn Mst lJ IM nG gX MO
theorem La(w:World):iG w jE:=
 ⟨Src.nil _ _ _,Nat.le_refl _,Nat.zero_le _,Src.nil _ _ _,Src.nil _ _ _,(fun y hy=>by cases hy),Nat.zero_le _,Src.nil _ _ _,Nat.zero_le _,(fun y hy=>by cases hy),Src.nil _ _ _,Nat.zero_le _,by unfold jE;dsimp only;unfold aT;decide⟩
structure Own(w:World)(mb:Nat)(c k:Nat)(W:World)(X:MX)(M:MR):Prop where
 mb:X.mb=mb
 at':dG W X M
 lb:cZ X M.lg c
 ok:bQ M k
 nw:∀q,dU X M q->w.heap.size<=q
 kp:Kept aj w W
theorem Own.step{w W W':World}{mb c k c' k':Nat}{X X':MX}{M M':MR}(h:Own w mb c k W X M)(hs:Step W X M W' X' M')(hl:cZ X' M'.lg c')(hk:bQ M' k'):Own w mb c' k' W' X' M':=by
 refine⟨hs.mb.trans h.mb,hs.at',hl,hk,fun q hq=> ?_,h.kp.trans hs.k (fun q hq=> .inr (h.nw q hq))⟩
 rcases hs.g q hq with y|y
 ·exact h.nw q y
 ·have:=h.kp.size;omega
theorem Own.new{w w1 w2:World}{F:Nat->Prop}{ep fl:Int}{l:List Mem}{X:MX}(hk1:Kept aj w w1)(hF:∀k,F k->w.heap.size<=k)(hfl:0<=fl/\fl<=aT)(hm:dG w2 X (wO ep l fl))(hlb:cZ X (wO ep l fl).lg 2)(hft:∀k,dU X (wO ep l fl) k->F k\/w1.heap.size<=k)(hk2:Kept F w1 w2):Own w X.mb 2 0 w2 X (wO ep l fl):=
 ⟨rfl,hm,hlb,ZW hfl,(fun q hq=>by
  rcases hft q hq with y|y
  ·exact hF q y
  ·have:=hk1.size;omega),hk1.trans hk2 (fun q hq=> .inr (hF q hq))⟩
theorem Qz:I64 1:=jq (by decide) (by decide)
theorem aco:aP.chk 1 [(0,1),(1,1)]=0:=by decide
theorem aaa(w:World):Calls Tryz.prog 9 #[] w fun e w'=>e=.returned (.bool true)/\Kept aj w w':=by
 go_enter Tryz.func9,Tryz.ntmps9
 go_wp2_with fail
 refine(aJ.new_any w).mono ?_
 rintro e w1 ⟨g,F,rfl,hd,hk1,hF⟩
 obtain⟨W1,hW1⟩:∃W1,w1.alloc (.cells #[.int .i64 0,.int .i64 1,.int .i64 1,.int .i64 1] 53)=W1:=⟨_,rfl⟩
 have hkw:Kept aj w1 W1:=by rw[<-hW1];(repeat'(first|(with_reducible first|exact ak|apply au|apply ay|apply aA|apply aB)|(right;simp;done)))
 have hnb:Has W1 w1.heap.size 53 #[.int .i64 0,.int .i64 1,.int .i64 1,.int .i64 1]:=by rw[<-hW1];exact Has.new _ _ _
 have hnew:=Xt W1 g F 1 1 1 0 (some ⟨w1.heap.size,0,none⟩) 2 [(0,1),(1,1)] (hd.kept hkw (fun _ _ z=>z)) (Src.bW (t:=53) (size:=2) (m:=2) (cs:=#[.int .i64 0,.int .i64 1,.int .i64 1,.int .i64 1]) hnb rfl) (fun _ ad e hf=>by injection e with e;subst e;exact absurd (hd.lt _ hf) (Nat.lt_irrefl _)) (by decide) (by decide) ⟨by decide,by decide⟩ aco
 have fE:=ah hnew;have gI:=ah (hk1.then hkw);have HF:=ah hF
 clear hnew hkw hnb hd hk1 hF
 go_wp2_with fail
 clear hW1
 refine fE.out.mono ?_
 rintro e w2 ⟨X,rfl,hm,hlb,-,hft,hk2⟩
 have ho:=Own.new gI.out HF.out ⟨by decide,by decide⟩ hm hlb hft hk2
 obtain⟨mb,hmb⟩:∃mb,X.mb=mb:=⟨_,rfl⟩
 rw[hmb]at ho⊢
 have HO:=ah ho;clear ho hm hlb hft hk2 hmb gI HF fE
 go_wp2_with fail
 go_loopw [3] (fun v3 wr=>∃(i:Nat) (M:MR) (X1:MX),i<=6/\v3=.int .i64 i/\Own w mb (2+9*i) i wr X1 M/\(i<=5->Hr M i)/\(i=6->M.st.ep=2/\M.st.ms=[(1,1)])) (fun v3 _=>6-(intOf v3).toNat)
 case atStart=>exact⟨0,_,X,by omega,rfl,HO.out,fun _=>awA,fun h=>by omega⟩
 case round=>
  obtain⟨i,M,X1,hi,rfl,ho,ha,hz⟩:=hrel
  by_cases hil:i<6
  ·have haw:=ha (by omega)
   have hol:M.out.length<=90:=by rw[haw.out];decide
   have hdel:=Nj ho.at' ho.lb (by omega) ho.ok (by omega) hol 1 jE (La wr) Qz Qz
   rw[ho.mb]at hdel
   have hd1:=ho.ok.deliver 1 jE Qz (La wr)
   have hout:(fO M 1 jE).out.length<=90:=by rw[haw.d.out];decide
   have QA:∀W X2,Step wr X1 M W X2 (fO M 1 jE)->cZ X2 (fO M 1 jE).lg (2+9*i+3)->Calls Tryz.prog 21 #[.pointer (some ⟨mb,0,none⟩)] W fun e W'=>(∃v:Value,e=.returned v)/\∃X3,Own w mb (2+9*(i+1)) (i+1) W' X3 (oV (fO M 1 jE)):=fun W X2 hs hl=>by
    have h2:=ho.step hs hl hd1
    have ht:=X8 h2.at' h2.lb (by omega) h2.ok (by omega) hout
    rw[h2.mb]at ht
    refine ht.mono fun e W' hp=> ?_
    obtain⟨h3,X3,h4,h5⟩:=Step.U6 hp
    exact⟨h3,X3,h2.step h4 (h5.mono (by omega)) hd1.tick⟩
   have hfin:(i+1<=5->Hr (oV (fO M 1 jE)) (i+1))/\(i+1=6->(oV (fO M 1 jE)).st.ep=2/\(oV (fO M 1 jE)).st.ms=[(1,1)]):=by
    refine⟨fun h=>haw.d.tick (by omega),fun h=> ?_⟩
    obtain rfl:i=5:=by omega
    exact haw.d.ab8
   have Ir:=hdel.mono fun e W' hp=>show(∃v:Value,e=.returned v)/\∃X',Step wr X1 M W' X' (fO M 1 jE)/\cZ X' (fO M 1 jE).lg (2+9*i+3)from Step.U6 hp
   obtain⟨M2,hM2⟩:∃M2,fO M 1 jE=M2:=⟨_,rfl⟩
   simp only[hM2]at Ir QA hfin
   simp only[jE,eH,aG,List.length_nil]at Ir
   have HD:=ah Ir;have HT:=ah QA;have qh:=ah hfin
   clear hdel Ir hd1 hout QA hfin haw hol ho ha hz hM2
   go_wp2_with fail
   refine HD.out.mono ?_
   rintro e w4 ⟨⟨v,rfl⟩,X2,hs,hl⟩
   have HTT:=ah (HT.out w4 X2 hs hl);clear hs hl
   go_wp2_with fail
   refine HTT.out.mono ?_
   rintro e w5 ⟨⟨v5,rfl⟩,X3,ho3⟩
   have Y5:=ah ho3;clear ho3
   go_wp2_with fail
   go_roundw
   case rel=>exact⟨i+1,_,X3,by omega,by go_num,Y5.out,qh.out.1,qh.out.2⟩
   case measure=>simp[intOf];omega
  ·obtain rfl:i=6:=by omega
   obtain⟨hz1,hz2⟩:=hz rfl
   have hcf:=Ut ho.at' ho.ok.st.inv.ok
   rw[ho.mb,hz1,hz2]at hcf
   obtain⟨fl,hfl⟩:∃fl,M.st.fl=fl:=⟨_,rfl⟩
   rw[hfl]at hcf
   have ER:=ah hcf;have HKP:=ah ho.kp
   clear hcf ho ha hz hz1 hz2 hfl
   go_wp2_with fail
   refine ER.out.mono ?_
   rintro e w4 ⟨A,c4,rfl,hn,hk4⟩
   obtain⟨g',cap,hv,_,_⟩:=hn.1.form (by decide)
   have hc:=(Src.bC hn.1).2 (by decide)
   obtain⟨ad,had,hlt,hcell⟩:=hc
   have e1:A=some ⟨g',0,none⟩:=by injection hv
   subst e1
   have e2:ad=⟨g',0,none⟩:=by injection had with had;exact had.symm
   subst e2
   have d0:∀o,(w4.alloc o).cell? ⟨g',0,none⟩=some (.int .i64 1):=fun o=>by
    have h5:Kept aj w4 (w4.alloc o):=by(repeat'(first|(with_reducible first|exact ak|apply au|apply ay|apply aA|apply aB)|(right;simp;done)))
    obtain⟨ad,had,_,hcell⟩:=((Src.bC hn.1).kept h5 (fun _ _ z=>z)).2 (by decide)
    injection had with had
    subst had
    exact hcell 0 _ rfl
   have dR:=ah (HKP.out.then hk4)
   clear hn hk4 hv hcell hlt had
   go_wp2_with fail
   go_ret
   exact⟨rfl,by(repeat'(first|(with_reducible first|exact ak|apply au|apply ay|apply aA|apply aB)|(exact dR.out)|(right;simp;done)))⟩
end dM
namespace dM
open aP Vn Mst lJ IM nG gX MO
def wT(w:World)(p:Option Addr):Prop:=p=none\/∃b,p=some ⟨b,0,none⟩/\Has w b 65 #[.pointer none,.pointer none,.pointer none,.slice none 0 0,.pointer none,.map none,.map none,.int .u64 0,.map none,.map none,.map none,.slice none 0 0]
theorem wT.kept{w w':World}{p:Option Addr}(h:wT w p)(hk:Kept aj w w'):wT w' p:=by
 rcases h with h|⟨b,h,hh⟩
 ·exact .inl h
 ·exact .inr ⟨b,h,hh.kept hk (fun z=>z)⟩
section
variable{w:World}{p:Option Addr}
theorem rY(h:wT w p):Calls Tryz.prog 47 #[.pointer p] w fun e w'=>e=.returned (.bool true)/\w=w':=by
 rcases h with rfl|⟨b,rfl,hh⟩
 ·go_enter Tryz.func47,Tryz.ntmps47
  go_wp2
  go_ret
  exact⟨rfl,rfl⟩
 ·have q:w.cell? ⟨b,0,none⟩=some (.pointer none):=hh.cell 0
  clear hh
  go_enter Tryz.func47,Tryz.ntmps47
  go_wp2
  go_ret
  exact⟨rfl,rfl⟩
theorem acp(h:wT w p):Calls Tryz.prog 25 #[.pointer p] w fun e w'=>e=.returned (.int .u64 0)/\w=w':=by
 have HN:=ah (rY h);clear h
 go_enter Tryz.func25,Tryz.ntmps25
 go_wp2_with fail
 refine HN.out.mono ?_
 rintro e w' ⟨rfl,rfl⟩
 go_wp2
 go_ret
 exact⟨rfl,rfl⟩
theorem aab(h:wT w p):Calls Tryz.prog 13 #[.pointer p] w fun e w'=>e=.returned (.slice none 0 0)/\w=w':=by
 have HN:=ah (rY h);clear h
 go_enter Tryz.func13,Tryz.ntmps13
 go_wp2_with fail
 refine HN.out.mono ?_
 rintro e w' ⟨rfl,rfl⟩
 go_wp2
 go_ret
 exact⟨rfl,rfl⟩
theorem abL(h:wT w p):Calls Tryz.prog 22 #[.pointer p] w fun e w'=>e=.returned (.slice none 0 0)/\w=w':=by
 have HN:=ah (rY h);clear h
 go_enter Tryz.func22,Tryz.ntmps22
 go_wp2_with fail
 refine HN.out.mono ?_
 rintro e w' ⟨rfl,rfl⟩
 go_wp2
 go_ret
 exact⟨rfl,rfl⟩
theorem abM(h:wT w p)(i:Int):Calls Tryz.prog 23 #[.pointer p,.int .i64 i] w fun e w'=>e=.returned (.bool false)/\w=w':=by
 have HN:=ah (rY h);clear h
 go_enter Tryz.func23,Tryz.ntmps23
 go_wp2_with fail
 refine HN.out.mono ?_
 rintro e w' ⟨rfl,rfl⟩
 go_wp2
 go_ret
 exact⟨rfl,rfl⟩
theorem aac(h:wT w p)(i:Int):Calls Tryz.prog 24 #[.pointer p,.int .i64 i] w fun e w'=>e=.returned (.bool false)/\w=w':=by
 have HN:=ah (rY h);clear h
 go_enter Tryz.func24,Tryz.ntmps24
 go_wp2_with fail
 refine HN.out.mono ?_
 rintro e w' ⟨rfl,rfl⟩
 go_wp2
 go_ret
 exact⟨rfl,rfl⟩
theorem abN(h:wT w p):Calls Tryz.prog 21 #[.pointer p] w fun e w'=>e=.returned (.slice none 0 0)/\Kept aj w w':=by
 obtain⟨W0,hW0⟩:∃W0,w.alloc (.cells #[.pointer p] 29)=W0:=⟨_,rfl⟩
 have hk0:Kept aj w W0:=by rw[<-hW0];(repeat'(first|(with_reducible first|exact ak|apply au|apply ay|apply aA|apply aB)|(right;simp;done)))
 have hn0:Has W0 w.heap.size 29 #[.pointer p]:=by rw[<-hW0];exact Has.new _ _ _
 have q1:W0.cell? ⟨w.heap.size,0,none⟩=some (.pointer p):=hn0.cell 0
 have HN:=ah (rY (h.kept hk0));have HK:=ah hk0;clear h hk0 hn0
 go_enter Tryz.func21,Tryz.ntmps21
 go_wp2_with fail
 clear hW0 q1
 refine HN.out.mono ?_
 rintro e w' ⟨rfl,rfl⟩
 go_wp2
 go_ret
 exact⟨rfl,HK.out⟩
theorem U7(h:wT w p)(i:Int)(cs:Array Value):Calls Tryz.prog 20 #[.pointer p,.int .i64 i,.agg cs] w fun e w'=>e=.returned (.slice none 0 0)/\Kept aj w w':=by
 obtain⟨W0,hW0⟩:∃W0,w.alloc (.cells cs 46)=W0:=⟨_,rfl⟩
 have hk0:Kept aj w W0:=by rw[<-hW0];(repeat'(first|(with_reducible first|exact ak|apply au|apply ay|apply aA|apply aB)|(right;simp;done)))
 have HN:=ah (rY (h.kept hk0));have HK:=ah hk0;clear h hk0
 go_enter Tryz.func20,Tryz.ntmps20
 go_wp2_with fail
 clear hW0
 refine HN.out.mono ?_
 rintro e w' ⟨rfl,rfl⟩
 go_wp2
 go_ret
 exact⟨rfl,HK.out⟩
theorem abO(h:wT w p):Calls Tryz.prog 12 #[.pointer p] w fun e w'=>e=.returned (mP 0 none 0 0 0)/\Kept aj w w':=by
 have hk:Kept aj w (w.alloc (.cells #[.int .i64 0,.slice none 0 0,.int .u64 0] 25)):=by(repeat'(first|(with_reducible first|exact ak|apply au|apply ay|apply aA|apply aB)|(right;simp;done)))
 have HN:=ah (rY (h.kept hk));clear h hk
 go_enter Tryz.func12,Tryz.ntmps12
 go_wp2_with fail
 refine HN.out.mono ?_
 rintro e w' ⟨rfl,rfl⟩
 have hb1:=Has.new w 25 #[.int .i64 0,.slice none 0 0,.int .u64 0]
 have HB1:=ah hb1;clear hb1
 go_wp2
 refine bodyPost_ret (results_cell_row rfl _ _ w.heap.size 25 _ (0,0) _ rfl HB1.out Tryz.underlying25 rfl (by kernel_rfl)) rfl ?_
 exact⟨rfl,by(repeat'(first|(with_reducible first|exact ak|apply au|apply ay|apply aA|apply aB)|(right;simp;done)))⟩
theorem abP(h:wT w p)(i:Int):Calls Tryz.prog 26 #[.pointer p,.int .i64 i] w fun e w'=>e=.returned (.agg #[.int .i64 0,.int .i64 0,.int .i64 0,.int .i64 0])/\Kept aj w w':=by
 have hk:Kept aj w (w.alloc (.cells #[.int .i64 0,.int .i64 0,.int .i64 0,.int .i64 0] 73)):=by(repeat'(first|(with_reducible first|exact ak|apply au|apply ay|apply aA|apply aB)|(right;simp;done)))
 have HN:=ah (rY (h.kept hk));clear h hk
 go_enter Tryz.func26,Tryz.ntmps26
 go_wp2_with fail
 refine HN.out.mono ?_
 rintro e w' ⟨rfl,rfl⟩
 have hb1:=Has.new w 73 #[.int .i64 0,.int .i64 0,.int .i64 0,.int .i64 0]
 have HB1:=ah hb1;clear hb1
 go_wp2
 refine bodyPost_ret (results_cell_row rfl _ _ w.heap.size 73 _ (0,0) _ rfl HB1.out Tryz.underlying73 rfl (by kernel_rfl)) rfl ?_
 exact⟨rfl,by(repeat'(first|(with_reducible first|exact ak|apply au|apply ay|apply aA|apply aB)|(right;simp;done)))⟩
theorem abQ(w:World):Calls Tryz.prog 42 #[.pointer none] w fun e w'=>e=.returned (.tuple #[.pointer none,.int .i64 1])/\w=w':=by
 go_enter Tryz.func42,Tryz.ntmps42
 go_wp2
 go_ret2
 exact⟨rfl,rfl⟩
theorem aad(w:World):Calls Tryz.prog 51 #[.pointer none] w fun e w'=>e=.returned (.tuple #[.pointer none,.int .i64 1])/\w=w':=by
 go_enter Tryz.func51,Tryz.ntmps51
 go_wp2
 go_ret2
 exact⟨rfl,rfl⟩
theorem abR(w:World):Calls Tryz.prog 19 #[.pointer none] w fun e w'=>e=.returned (.tuple #[.pointer none,.int .i64 1])/\w=w':=by
 have HN:=ah (aad w)
 go_enter Tryz.func19,Tryz.ntmps19
 go_wp2_with fail
 refine HN.out.mono ?_
 rintro e w' ⟨rfl,rfl⟩
 go_wp2
 go_ret2
 exact⟨rfl,rfl⟩
theorem acr(w:World)(ep fl:Int)(A:Option Addr)(c:Nat)(l:List Mem)(hl:Src w 2 A l.length (aS l))(hlc:l.length<=c)(hlen:l.length<=1000)(h0:aP.chk ep l=0):
  Calls Tryz.prog 10 #[.pointer none,mP ep A l.length c fl] w fun e w'=>e=.returned (.tuple #[.pointer none,.int .i64 1])/\Kept aj w w':=by
 have dL:=fun W (hW:Kept aj w W)=>Mst.rD W ep fl A c l (hl.kept hW (fun _ _ z=>z)) hlc (by omega)
 rw[h0]at dL
 have HC:=ah dL
 clear h0 dL hl
 go_enter Tryz.func10,Tryz.ntmps10
 go_wp2_with fail
 refine(HC.out _ (by(repeat'(first|(with_reducible first|exact ak|apply au|apply ay|apply aA|apply aB)|(right;simp;done))))).mono ?_
 rintro e w2 ⟨rfl,hk⟩
 have HK:=ah (Kept.then (F:=aj) (a:=w) (by(repeat'(first|(with_reducible first|exact ak|apply au|apply ay|apply aA|apply aB)|(right;simp;done)))) hk);clear hk
 go_wp2_with fail
 refine(abQ _).mono ?_
 rintro e w3 ⟨rfl,rfl⟩
 go_wp2
 go_ret2
 exact⟨rfl,HK.out⟩
end
end dM
end Go.Proofs.YtolkgbafebehfaaGreat

/- Part 44 of what the proof needs. -/
import Derived.Test.YtfjdpbbgfjhnlaaGreatMK42
import Derived.Deep.CutBlock
set_option linter.unusedSimpArgs false
set_option linter.unusedVariables false
set_option maxHeartbeats 32000000
set_option maxRecDepth 100000
namespace Go.Proofs.YtfjdpbbgfjhnlaaGreat
open Go.RowKit
set_option maxRecDepth 100000
namespace aH
variable{F:Nat->Prop}{w:World}{g n:Nat}{m:Safe}{ps:List Pc}{aU aK:Int}
theorem ZU(h:aX w g F n m ps aU aK):
  Calls Tryz.prog 34 #[.pointer (some ⟨g,0,none⟩)] w fun e w'=>e=.returned (.tuple #[])/\(∃FQ,aX w' g F n m ps aU FQ)/\Kept F w w':=by
 obtain⟨mb,A,c,hF,hg,hm,ho⟩:=h
 have c1:w.cell? ⟨g,3,none⟩=some (.int .i64 aK):=hg.cell 3
 have f1:=hg.frozen 3
 have hne:=hm.ne hg
 have hnr:=own_ne ho hg (by decide)
 have H:=ah hg;clear hg
 have HM:=ah hm;clear hm
 have HO:=ah ho;clear ho
 obtain⟨B,hB⟩:∃B,IntKind.i64.wrap (aK+1)=B:=⟨_,rfl⟩
 have hmn:∀(W:World) (ts:Array TypeId) (t:TypeId),(Builtin.min_ ts t #[.int .i64 B,.int .i64 1073741824]).run Tryz.prog W=.ok (.int .i64 (min B 1073741824)) W:=by
  intro W ts t
  rw[run_min_int2]
  split
  ·rw[show min B 1073741824=1073741824 by omega]
  ·rw[show min B 1073741824=B by omega]
 go_enter Tryz.func34,Tryz.ntmps34
 go_wp2
 all_goals
  go_end0
  refine⟨rfl,⟨min B 1073741824,mb,A,c,hF,?_,?_,?_⟩,by(repeat'(first|(with_reducible first|exact ak|apply au|apply ay|apply aA|apply aB)|(exact .inl ((hF _).2 (.inl rfl)))|(right;simp;done)))⟩
  ·((repeat (first|with_reducible exact H.out|with_reducible apply Has.dB|with_reducible apply Has.past|with_reducible apply Has.drewN|with_reducible apply Has.drew|with_reducible apply Has.alloc))<;>first|omega|rfl)
  ·exact HM.out.kept (F:=fun k=>k=g) (by(repeat'(first|(with_reducible first|exact ak|apply au|apply ay|apply aA|apply aB)|(exact .inl rfl)|(right;simp;done)))) hne
  ·exact aC HO.out (F:=fun k=>k=g) (by(repeat'(first|(with_reducible first|exact ak|apply au|apply ay|apply aA|apply aB)|(exact .inl rfl)|(right;simp;done)))) fun k hk e=>hnr (by rw[hk,e])
theorem VQ(hps0:ps=[])(h:aX w g F n m ps aU aK)(K:Int)(hK:K<=9223372036854775807)(hpi:∀p∈ps,I64 p.1)(hlen:ps.length<=100000)(hn:n<=1000000)
  (Z:Nat) (hZ:∀k,(dN m k).size<=Z) (hsz:Z+total ps<=4611686018427387904\/Z+(max K 0).toNat<=4611686018427387904):
  Calls Tryz.prog 11 #[.pointer (some ⟨g,0,none⟩),.int .i64 K] w fun e w'=>e=.returned (.tuple #[])/\(∃FQ,aX w' g F (n+ps.length) (qE m (max K 0).toNat ps) [] aU FQ)/\Kept F w w':=by
 have hn:=dR h
 have HN:=ah hn;clear hn
 obtain⟨mb,A,c,hF,hg,hm,ho⟩:=h
 have c0:w.cell? ⟨g,0,none⟩=some (.map (some mb)):=hg.cell 0
 have c1:w.cell? ⟨g,1,none⟩=some (.slice A ps.length c):=hg.cell 1
 have HG:=ah hg;clear hg
 have HM:=ah hm;clear hm
 have HO:=ah ho;clear ho
 have HF:=ah hF;clear hF
 have uJ:=ah hpi;clear hpi
 have HZ:=ah hZ;clear hZ
 obtain⟨L,hL,hLm⟩:∃L:Nat,max K 0=L/\L<=9223372036854775807:=⟨(max K 0).toNat,by omega,by omega⟩
 rw[hL,Int.toNat_natCast]at hsz⊢
 have hmx:∀(W:World) (ts:Array TypeId) (t:TypeId),(Builtin.max_ ts t #[.int .i64 K,.int .i64 0]).run Tryz.prog W=.ok (.int .i64 L) W:=by
  intro W ts t
  rw[run_max_int2,<-hL]
  split
  ·rw[show max K 0=0 by omega]
  ·rw[show max K 0=K by omega]
 clear hL
 go_enter Tryz.func11,Tryz.ntmps11
 go_wp2_with fail
 refine HN.out.mono ?_
 rintro e w' ⟨rfl,rfl⟩
 go_wp2_with fail
 clear hmx
 go_loopw [4,6,7,17] (fun v4 v6 v7 v17 wr=>∃(i left:Nat) (mi:Safe),i<=ps.length/\left<=9223372036854775807/\v17=.int .i64 i/\v4=.int .i64 left/\iq wr mb (n+i) mi/\qE m L ps=qE mi left (ps.drop i)/\(∀k,(dN mi k).size<=Z+total (ps.take i)/\(dN mi k).size+left<=Z+L)/\Kept (fun k=>k=mb) w wr) (fun _ _ _ v17 _=>ps.length-(intOf v17).toNat)
 case atStart=>exact⟨0,L,m,Nat.zero_le _,hLm,rfl,rfl,HM.out,rfl,fun k=>⟨by simpa [total]using HZ.out k,Nat.add_le_add_right (HZ.out k) L⟩,Kept.refl _ _⟩
 case round=>
  obtain⟨i,left,mi,hi,hlm,rfl,rfl,uD,hcr,hzi,hk⟩:=hrel
  have hend:∀(W:World) (j:Nat) (mj:Safe),j<=ps.length->iq W mb (n+j) mj->Kept (fun k=>k=mb) wr W->aX W g F (n+ps.length) mj ps aU aK/\Kept F w W:=by
   intro W j mj hj hmj hkW
   have hkk:=hk.then hkW
   refine⟨⟨mb,A,c,HF.out,HG.out.kept hkk (fun e=>HM.out.ne HG.out e.symm),hmj.mono (by omega),aC HO.out hkk ?_⟩,hkk.mono fun k e=>(HF.out k).2 (.inr (.inl e))⟩
   rintro k hkb rfl
   exact HM.out.Bg HO.out hkb
  have jv:=ah hend;clear hend
  have hkg:=HG.out.kept hk (fun e=>HM.out.ne HG.out e.symm)
  have d0:wr.cell? ⟨g,0,none⟩=some (.map (some mb)):=hkg.cell 0
  have hgl:=hkg.lt
  clear hkg
  by_cases hil:i<ps.length
  ·exact absurd hil (by rw[hps0];exact Nat.not_lt_zero _)
  ·obtain rfl:i=ps.length:=by omega
   go_wp2_with fail
   obtain⟨hd1,hk1⟩:=jv.out wr ps.length _ (Nat.le_refl _) uD (Kept.refl _ _)
   refine(IC hd1).mono ?_
   rintro e w4 ⟨rfl,hd2,hk3⟩
   go_wp2_with fail
   refine(ZU hd2).mono ?_
   rintro e w5 ⟨rfl,⟨FQ,hd3⟩,hk4⟩
   go_wp2_with fail
   go_end0
   refine⟨rfl,?_,(hk1.then hk3).then hk4⟩
   have hz:=hcr
   rw[List.drop_length,qE]at hz
   rw[hz]
   exact⟨_,hd3⟩
end aH
namespace dH
open aO Vn Mst lV IM mY gZ DL MO
section
variable{w w':World}{X X0:MX}{M M0:MR}{c k:Nat}
structure yc(w':World)(X:MX)(M:MR)(n:Nat)(m:aH.Safe)(aK:Int)(R':Wl.St)(k:Nat):Prop where
 d:aH.aX w' X.g X.F n m [] X.aU aK
 log:Wl.Log M.lg.first R' [] m []
 low:Pt.qo M.lg.first m []
 hd:Pt.Hd R'
 tx:Wl.texts R'=Pt.jT k M.lg.l
 k1:k<=M.lg.l.length
 k2:k+1<=(Wl.texts R').length
 len:R'.length<=M.lg.R.length
 n':n=X.n
theorem yc.kept{n:Nat}{m:aH.Safe}{aK:Int}{R':Wl.St}{k:Nat}{G:Nat->Prop}(h:yc w X M n m aK R' k)(hk:Kept G w w')(hs:∀q,X.F q->¬G q):yc w' X M n m aK R' k:={h with d:=h.d.kept hk hs}
theorem VR(h:dD w X M)(hb:dw X M.lg c)(hc:c<=4000)(hT:M.lg.T=[])(K:Int)(hK:K<=9223372036854775807):
  Calls Tryz.prog 11 #[.pointer (some ⟨X.g,0,none⟩),.int .i64 K] w fun e w'=>e=.returned (.tuple #[])/\(∃n m aK R' k,yc w' X M n m aK R' k)/\Kept X.F w w':=by
 have hp:rX w X M.lg:=h.c 1
 have hps:X.ps=[]:=List.eq_nil_of_length_eq_zero (by rw[Pt.lu.adI hp,hT];rfl)
 have hn:=hb.n
 have hl:=hb.l
 have hz:=fun q=>hp.low.low.size hp.log q
 obtain⟨R',k,P,c1,c2,c3,c4,c5,c6,c7,c8⟩:=Pt.lu.UN hp hb.hd (max K 0).toNat
 obtain⟨k',t1,t2⟩:=hp.tx
 rw[hT,List.append_nil]at t1
 have t3:(Wl.texts M.lg.R).length=M.lg.l.length+1:=by rw[t1,Pt.tZ]
 have t4:P=M.lg.l.length:=by omega
 rw[t4,List.take_of_length_le (Nat.le_refl _)]at c4
 rw[hT]at c7
 refine(aH.VQ hps hp.d K hK (by rw[hps];intro p hp;cases hp) (by rw[hps];decide) (by rw[hps]at hn;simp at hn;omega) 66000 hz (.inl (by rw[hps];decide))).mono ?_
 rintro e w' ⟨he,⟨FQ,hd⟩,hk⟩
 exact⟨he,⟨_,_,FQ,R',k,hd,c1,c2,c3,c4,by omega,by rw[c4,Pt.tZ];omega,by simpa using c7,by rw[hps];rfl⟩,hk⟩
theorem RQ{n:Nat}{m:aH.Safe}{aK:Int}{R':Wl.St}{k:Nat}{ns:List aG}(h:yc w' X M n m aK R' k)(h0:dD w X M)(hb:dw X M.lg c)(hc:c<=4000)(hns:acw M.lg.l ns)(hrun:Mst.runN st0 ns=M.st)(lS:1<=M.st.ep):
  Calls Tryz.prog 12 #[.pointer (some ⟨X.g,0,none⟩)] w' fun e w2=>∃X',e=.returned (.tuple #[.pointer (some ⟨X'.mb,0,none⟩),.int .i64 0])/\dD w2 X' (FP ⟨M.lg.first,R',[],M.lg.l⟩ ns)/\dw X' (⟨M.lg.first,R',[],M.lg.l⟩:oq) c/\X'.g=X.g/\(∀q,dX X' (FP ⟨M.lg.first,R',[],M.lg.l⟩ ns) q->X.F q\/w'.heap.size<=q)/\Kept X.F w' w2:=by
 have hp:rX w X M.lg:=h0.c 1
 have h1:=hb.n
 have h2:=hb.f
 have h3:=hb.l
 have h4:=h.len
 have h5:=hp.f1
 have h6:=h.k1
 have h7:=h.n'
 refine(ZO w' X.g n X.F m X.aU aK M.lg.first R' k M.lg.l ns h.d (by omega) h.log h.low h.hd h.tx h.k1 h.k2 (by omega) hp.f1 (by omega) (by omega) hp.hs (by omega) hns (by rw[hrun];omega)).mono ?_
 rintro e w2 ⟨X',he,a1,a2,a3,a4,a5,a6⟩
 refine⟨X',he,a1,⟨?_,?_,hb.l,h.hd⟩,a2,a5,a6⟩
 ·rw[a3,a4,h7];simp;omega
 ·show M.lg.first+(R'.length+([]:List (List UInt8)).length:Nat)<=_
  simp;omega
end
end dH
namespace dH
open aO Vn Mst lV IM mY gZ
structure BD(w:World)(X:MX)(M:MR):Prop where
 c0:Has w X.mb 90 (vO X M)
 c2:eH w X.sb X.FS M.st
 c3:w.ownsRow 0 53 3 (.slice X.pA M.pins.length X.pc) M.pins.length (aS M.pins)
section
variable{w w':World}{X X0:MX}{M M0:MR}{c:Nat}
theorem BD.quiet(h:BD w X M)(hk:Kept aj w w'):BD w' X M:=⟨h.c0.kept hk (fun z=>z),h.c2.still hk,aC h.c3 hk (fun _ _ z=>z)⟩
theorem dD.old(h:dD w X M)(hk:Kept X.F w w'):BD w' X M:=
 ⟨Has.kept (h.c 0) hk (fun z=>by have:=h.ap 0 1 X.mb rfl (.inl z);omega),eH.kept (h.c 2) hk (fun q hq z=>by have:=h.ap 2 1 q hq (.inl z);omega),aC (h.c 3) hk (fun q hq z=>by have:=h.ap 3 1 q hq (.inl z);omega)⟩
theorem BD.cell(h:BD w X M){i:Nat}{v:Value}(hv:(vO X M)[i]? =some v):w.cell? ⟨X.mb,i,none⟩=some v:=by
 have h1:w.cell? ⟨X.mb,i,none⟩=(vO X M)[i]? :=Has.cell h.c0 i
 rw[h1,hv]
theorem wY(h:BD w X M):Calls Tryz.prog 28 #[.pointer (some ⟨X.mb,0,none⟩)] w fun e w'=>e=.returned (.bool false)/\w=w':=by
 have q:w.cell? ⟨X.mb,0,none⟩=some (.pointer (some ⟨X.g,0,none⟩)):=Has.cell h.c0 0
 clear h
 go_enter Tryz.func28,Tryz.ntmps28
 go_wp2
 go_ret
 exact⟨rfl,rfl⟩
theorem acA(h:BD w X M):Calls Tryz.prog 9 #[.pointer (some ⟨X.mb,0,none⟩)] w fun e w'=>e=.returned (.int .u64 M.st.hz)/\Kept aj w w':=by
 have q:=h.cell (i:=2) rfl
 have h1:=wY h
 have h2:=uH h.c2
 have H1:=ah h1;have H2:=ah h2;clear h h1 h2
 go_enter Tryz.func9,Tryz.ntmps9
 go_wp2_with fail
 refine H1.out.mono ?_
 rintro e w1 ⟨rfl,rfl⟩
 go_wp2_with fail
 refine H2.out.mono ?_
 rintro e w2 ⟨rfl,hk⟩
 clear q
 have HK:=ah hk;clear hk
 go_wp2
 go_ret
 exact⟨rfl,HK.out⟩
theorem VT(h:BD w X M)(hok:nZ M.st):Calls Tryz.prog 19 #[.pointer (some ⟨X.mb,0,none⟩)] w (yH w M.st.lg):=by
 have q:=h.cell (i:=2) rfl
 have h1:=wY h
 have h2:=BX h.c2 hok
 have H1:=ah h1;have H2:=ah h2;clear h h1 h2 hok
 go_enter Tryz.func19,Tryz.ntmps19
 go_wp2_with fail
 refine H1.out.mono ?_
 rintro e w1 ⟨rfl,rfl⟩
 go_wp2_with fail
 refine H2.out.mono ?_
 rintro e w2 ⟨A,d,rfl,hn,hk⟩
 clear q
 have HK:=ah hk;have HN:=ah hn;clear hk hn
 go_wp2
 go_ret
 exact⟨A,d,rfl,HN.out,HK.out⟩
theorem ZV(h:BD w X M)(hp:M.pins.length<=1000):Calls Tryz.prog 14 #[.pointer (some ⟨X.mb,0,none⟩)] w (uF w M.pins):=by
 have q:=h.cell (i:=3) rfl
 have h1:=wY h
 have h2:=pG w X.pA X.pc M.pins (Src.bC h.c3) (by omega)
 have H1:=ah h1;have H2:=ah h2;clear h h1 h2 hp
 go_enter Tryz.func14,Tryz.ntmps14
 go_wp2_with fail
 refine H1.out.mono ?_
 rintro e w1 ⟨rfl,rfl⟩
 go_wp2_with fail
 refine H2.out.mono ?_
 rintro e w2 ⟨A,d,rfl,hn,hk⟩
 clear q
 have HK:=ah hk;have HN:=ah hn;clear hk hn
 go_wp2
 go_ret
 exact⟨A,d,rfl,HN.out,HK.out⟩
theorem ZW(h:BD w X M)(hok:nZ M.st):Calls Tryz.prog 17 #[.pointer (some ⟨X.mb,0,none⟩)] w (rG w M.st.ep M.st.fl M.st.ms):=by
 have h1:=fun W (hW:Kept aj w W)=>wY (h.quiet hW)
 have q:=fun W (hW:Kept aj w W)=>(h.quiet hW).cell (i:=2) rfl
 have h2:=fun W (hW:Kept aj w W)=>pN (h.quiet hW).c2 hok
 have H1:=ah h1;have H2:=ah h2;have HQ:=ah q;clear h h1 h2 hok q
 go_enter Tryz.func17,Tryz.ntmps17
 go_wp2_with fail
 refine(H1.out _ (by(repeat'(first|(with_reducible first|exact ak|apply au|apply ay|apply aA|apply aB)|(right;simp;done))))).mono ?_
 rintro e w1 ⟨rfl,rfl⟩
 have q:=HQ.out (w.alloc (.cells #[.int .i64 0,.slice none 0 0,.int .u64 0] 25)) (by(repeat'(first|(with_reducible first|exact ak|apply au|apply ay|apply aA|apply aB)|(right;simp;done))))
 go_wp2_with fail
 refine(H2.out _ (by(repeat'(first|(with_reducible first|exact ak|apply au|apply ay|apply aA|apply aB)|(right;simp;done))))).mono ?_
 rintro e w3 ⟨A1,c1,rfl,hn,hk⟩
 clear q
 have hb1:=(Has.new w 25 #[.int .i64 0,.slice none 0 0,.int .u64 0]).kept hk (fun z=>z)
 have c0:=hb1.cell 0
 have f0:=hb1.frozen 0
 have c1':=hb1.cell 1
 have f1:=hb1.frozen 1
 have c2:=hb1.cell 2
 have f2:=hb1.frozen 2
 simp only[List.getElem?_toArray,List.getElem?_cons_zero,List.getElem?_cons_succ]at c0 c1' c2
 have hz:w.heap.size<(w.alloc (.cells #[.int .i64 0,.slice none 0 0,.int .u64 0] 25)).heap.size:=by rw[size_alloc];exact Nat.lt_succ_self _
 have HZ:=ah hz
 have HB1:=ah hb1;have HN:=ah hn;have bn:=ah (Kept.then (F:=aj) (a:=w) (by(repeat'(first|(with_reducible first|exact ak|apply au|apply ay|apply aA|apply aB)|(right;simp;done)))) hk);clear hb1 hn hk hz
 go_wp2
 have hfin:=((HB1.out.put 0 (Value.int .i64 M.st.ep)).put 1 (Value.slice A1 M.st.ms.length c1)).put 2 (Value.int .u64 M.st.fl)
 refine bodyPost_ret (results_cell_row rfl _ _ w.heap.size 25 _ (0,0) _ rfl hfin Tryz.underlying25 rfl (by kernel_rfl)) rfl ?_
 have hk9:∀W (i:Nat) u,Kept aj w W->Kept aj w (W.setCell ⟨w.heap.size,i,none⟩ u):=fun W i u hW=>hW.put (.inr (Nat.le_refl _))
 have hz:=HZ.out
 refine⟨A1,c1,rfl,⟨?_,fun g hg=>by have:=HN.out.2 g hg;omega⟩,hk9 _ _ _ (hk9 _ _ _ (hk9 _ _ _ (bn.out)))⟩
 refine aC (F:=fun k=>k=w.heap.size) HN.out.1 ((((Kept.refl (fun k=>k=w.heap.size) w3).put (.inl rfl)).put (.inl rfl)).put (.inl rfl)) (fun g hg hF=> ?_)
 have h1:=HN.out.2 g hg
 omega
theorem ZX(h:BD w X M)(i:Int):Calls Tryz.prog 15 #[.pointer (some ⟨X.mb,0,none⟩),.int .i64 i] w fun e w'=>e=.returned (pq (jE M.st i))/\Kept aj w w':=by
 have h1:=fun W (hW:Kept aj w W)=>wY (h.quiet hW)
 have q:=fun W (hW:Kept aj w W)=>(h.quiet hW).cell (i:=2) rfl
 have h2:=fun W (hW:Kept aj w W)=>AZ (h.quiet hW).c2 i
 obtain⟨a0,a1,a2,a3,ha⟩:∃a0 a1 a2 a3,jE M.st i=⟨a0,a1,a2,a3⟩:=⟨_,_,_,_,rfl⟩
 rw[ha]at h2⊢
 have H1:=ah h1;have H2:=ah h2;have HQ:=ah q;clear h h1 h2 q ha
 go_enter Tryz.func15,Tryz.ntmps15
 go_wp2_with fail
 refine(H1.out _ (by(repeat'(first|(with_reducible first|exact ak|apply au|apply ay|apply aA|apply aB)|(right;simp;done))))).mono ?_
 rintro e w1 ⟨rfl,rfl⟩
 have q:=HQ.out (w.alloc (.cells #[.int .i64 0,.int .i64 0,.int .i64 0,.int .i64 0] 56)) (by(repeat'(first|(with_reducible first|exact ak|apply au|apply ay|apply aA|apply aB)|(right;simp;done))))
 go_wp2_with fail
 refine(H2.out _ (by(repeat'(first|(with_reducible first|exact ak|apply au|apply ay|apply aA|apply aB)|(right;simp;done))))).mono ?_
 rintro e w3 ⟨rfl,hk⟩
 clear q
 have hb1:=(Has.new w 56 #[.int .i64 0,.int .i64 0,.int .i64 0,.int .i64 0]).kept hk (fun z=>z)
 have c0:=hb1.cell 0
 have f0:=hb1.frozen 0
 have c1':=hb1.cell 1
 have f1:=hb1.frozen 1
 have c2:=hb1.cell 2
 have f2:=hb1.frozen 2
 have c3:=hb1.cell 3
 have f3:=hb1.frozen 3
 simp only[List.getElem?_toArray,List.getElem?_cons_zero,List.getElem?_cons_succ]at c0 c1' c2 c3
 have HB1:=ah hb1;have bn:=ah (Kept.then (F:=aj) (a:=w) (by(repeat'(first|(with_reducible first|exact ak|apply au|apply ay|apply aA|apply aB)|(right;simp;done)))) hk);clear hb1 hk
 go_wp2
 have hfin:=(((HB1.out.put 0 (Value.int .i64 a0)).put 1 (Value.int .i64 a1)).put 2 (Value.int .i64 a2)).put 3 (Value.int .i64 a3)
 refine bodyPost_ret (results_cell_row rfl _ _ w.heap.size 56 _ (0,0) _ rfl hfin Tryz.underlying56 rfl (by kernel_rfl)) rfl ?_
 have hk9:∀W (i:Nat) u,Kept aj w W->Kept aj w (W.setCell ⟨w.heap.size,i,none⟩ u):=fun W i u hW=>hW.put (.inr (Nat.le_refl _))
 exact⟨rfl,hk9 _ _ _ (hk9 _ _ _ (hk9 _ _ _ (hk9 _ _ _ (bn.out))))⟩
end
end dH
namespace dH
open aO Vn Mst lV IM mY gZ MO
attribute [local go_sem↓] RG
theorem acB{M:MR}{k:Nat}(h:bD M k)(a:jX):rC M.st (oJ M a).st:=by
 unfold oJ
 split
 ·exact PT _ _ _
 split
 ·exact Zk h
 split
 ·exact Zp _ _
 split
 ·exact Vq _ _
 ·exact(eG.refl _).rel
theorem afV{x:Int}(h:I64 x): -9223372036854775808<=x/\x<=9223372036854775807:=by
 unfold I64 at h
 simpa [Lit.wf,IntKind.min,IntKind.max,IntKind.signed,IntKind.bits]using h
theorem Qo(p:jK)(W:World):(binOp .neq 56 (pq p) (pq p)).run Tryz.prog W=.ok (.bool false) W:=by
 obtain⟨p1,p2,p3,p4⟩:=p
 simp[go_sem]
theorem afW{a b:List aY}(h:kp a=kp b){i:Nat}{p q:aY}(hp:a[i]? =some p)(hq:b[i]? =some q):p.id=q.id/\p.at'=q.at':=by
 have h1:(kp a)[i]? =some (p.id,p.at'):=by unfold kp;rw[List.getElem?_map,hp];rfl
 have h2:(kp b)[i]? =some (q.id,q.at'):=by unfold kp;rw[List.getElem?_map,hq];rfl
 rw[h,h2]at h1
 injection h1 with h1
 injection h1 with h1 h2
 exact⟨h1.symm,h2.symm⟩
structure VU(w:World)(g mb i:Nat)(wr:World)(X:MX)(M:MR):Prop where
 own:Own w mb (2+6*i) i wr X M
 g:X.g=g
 out:M.out=[]
 ep:1<=M.st.ep
 lok:iw M
 pk:gQ M
 T:M.lg.T=[]
theorem VW(w:World)(ep fl:Int)(A:Option Addr)(c:Nat)(l:List Mem)(B:Option Addr)(d:Nat)(acts:List jX)(n:Int)(hl:Src w 2 A l.length (aP l))(hlc:l.length<=c)(hcm:c<=maxLen)(hfl:0<=fl/\fl<=aT)
  (ha:Src w 24 B acts.length (yZ acts)) (hg:∀a∈acts,C6 w a) (had:acts.length<=d) (hdm:d<=maxLen) (hni:I64 n):
  Calls Tryz.prog 4 #[lq ep A l.length c fl,.slice B acts.length d,.int .i64 n] w fun e w'=>e=.returned (.bool true)/\Below w.heap.size w w':=by
 have hend:∀w',Kept aj w w'->Below w.heap.size w w':=fun w' hk=>hk.below (Nat.le_refl _) (fun _ z=>z.elim)
 have hfew:=fun W (hW:Kept aj w W)=>adU W B d acts (ha.kept hW (fun _ _ z=>z)) (fun a h=>(hg a h).1.lens)
 have haw:=fun W=>adV W
 have hll:l.length<=9223372036854775807:=by unfold maxLen at hcm;omega
 obtain⟨W0,hW0⟩:∃W0,w.alloc (.cells #[.int .i64 ep,.slice A l.length c,.int .u64 fl] 25)=W0:=⟨_,rfl⟩
 have hk0:Kept aj w W0:=by rw[<-hW0];(repeat'(first|(with_reducible first|exact ak|apply au|apply ay|apply aA|apply aB)|(right;simp;done)))
 have hn0:Has W0 w.heap.size 25 #[.int .i64 ep,.slice A l.length c,.int .u64 fl]:=by rw[<-hW0];exact Has.new _ _ _
 obtain⟨cb,hcb⟩:∃cb,w.heap.size=cb:=⟨_,rfl⟩
 rw[hcb]at hn0
 have hcc:∀W,Kept aj W0 W->W.cell? ⟨cb,0,none⟩=some (.int .i64 ep)/\W.cell? ⟨cb,1,none⟩=some (.slice A l.length c)/\W.cell? ⟨cb,2,none⟩=some (.int .u64 fl):=fun W hW=>⟨(hn0.kept hW (fun z=>z)).cell 0,(hn0.kept hW (fun z=>z)).cell 1,(hn0.kept hW (fun z=>z)).cell 2⟩
 obtain⟨fw,hfw⟩:∃fw,Aw acts=fw:=⟨_,rfl⟩
 simp only[hfw]at hfew
 have jv:=ah hend;have ahs:=ah hfew;have HAW:=ah haw;have Dp:=ah hcc;have bf:=ah hk0;have HL:=ah hl;have HLC:=ah hlc;have oM:=ah hfl;have HA:=ah ha;have HG:=ah hg
 have ah4:=ah (show∀W,Kept aj W0 W->(∀k,k=cb->w.heap.size<=k)from fun W hW k e=>by omega)
 have HAD:=ah had;have LY:=ah hdm;have HFW:=ah hfw
 obtain⟨b0,b1,b2⟩:=hcc W0 (Kept.refl _ _)
 clear hend hfew haw hcc hk0 hn0 hl hlc hcm hfl ha hg had hdm hfw
 go_enter Tryz.func4,Tryz.ntmps4
 go_wp2_with fail
 clear hW0 b0 b1 b2 hcb
 refine(ahs.out W0 bf.out).mono ?_
 rintro e w1 ⟨rfl,hk1⟩
 obtain⟨b0,b1,b2⟩:=Dp.out w1 hk1
 have fF:=ah hk1;clear hk1
 cases fw
 ·go_wp2_with fail
  clear b0 b1 b2
  refine(HAW.out _).mono ?_
  rintro e w3 ⟨rfl,hk3⟩
  have HE:=ah (jv.out _ (bf.out.then (fF.out.then hk3)));clear hk3
  go_wp2
  go_ret
  exact⟨rfl,HE.out⟩
 by_cases h20:20<l.length
 ·have afX:(20:Int)<(l.length:Int):=by omega
  go_wp2_with fail
  clear b0 b1 b2 h20 afX
  refine(HAW.out _).mono ?_
  rintro e w3 ⟨rfl,hk3⟩
  have HE:=ah (jv.out _ (bf.out.then (fF.out.then hk3)));clear hk3
  go_wp2
  go_ret
  exact⟨rfl,HE.out⟩
 have afX:¬(20:Int)<(l.length:Int):=by omega
 have hls:=h20
 have SB:=ah hls
 clear hls h20 hll
 by_cases h0:aO.chk ep l=0
 rotate_left
 ·have hbad:=fun W v (hW:Kept aj w W)=>abE W v ep fl A c l (HL.out.kept hW (fun _ _ z=>z)) HLC.out (by have:=SB.out;omega) h0
  obtain⟨z,hz⟩:∃z,aO.chk ep l=z:=⟨_,rfl⟩
  simp only[hz]at h0 hbad
  have hz2:(z !=0)=true:=by simpa using h0
  have HB:=ah hbad
  clear hbad h0 hz
  go_wp2_with fail
  refine(aH.new_any _).mono ?_
  rintro e w3 ⟨g,F,rfl,hd,hk3,hF⟩
  have bn:=ah (fF.out.then hk3)
  clear hd hk3 hF b0 b1 b2
  obtain⟨b0,b1,b2⟩:=Dp.out w3 bn.out
  go_wp2_with fail
  clear b0 b1 b2
  refine(HB.out w3 _ (bf.out.then bn.out)).mono ?_
  rintro e w4 ⟨rfl,hk4⟩
  have dW:=ah (bn.out.then hk4)
  clear hk4
  go_wp2_with fail
  refine(HAW.out _).mono ?_
  rintro e w5 ⟨rfl,hk5⟩
  have HE:=ah (jv.out _ (bf.out.then (dW.out.then hk5)));clear hk5
  go_wp2
  go_ret
  exact⟨rfl,HE.out⟩
 have hnew:∀W g F aU aK,Kept aj W0 W->aH.aX W g F 0 (fun _=>none) [] aU aK->(∀k,F k->W0.heap.size<=k)->Calls Tryz.prog 8 #[.pointer (some ⟨g,0,none⟩),lq ep A l.length c fl] W fun e w'=>∃X,e=.returned (.tuple #[.pointer (some ⟨X.mb,0,none⟩),.int .i64 0])/\Own w X.mb 2 0 w' X (tH ep l fl)/\X.g=g:=fun W g F aU aK hW hd hF=>by
  have hs0:=bf.out.size
  refine(Pq W g F aU aK ep fl A c l hd (HL.out.kept (bf.out.then hW) (fun _ _ z=>z)) (fun h1 ad e hf=> ?_) HLC.out (by have:=SB.out;omega) oM.out h0).mono ?_
  ·obtain⟨KE,e2,hlt,_⟩:=HL.out.2 h1
   have e3:ad=KE:=by have e4:some ad=some KE:=e.symm.trans e2;injection e4
   rw[e3]at hf
   have:=hF _ hf;omega
  ·rintro e w' ⟨X,rfl,hm,hlb,DC,hft,hk⟩
   exact⟨X,rfl,Own.new (bf.out.then hW) (fun k hf=>by have:=hF k hf;omega) oM.out hm hlb hft hk,DC⟩
 have fH:=ah hnew;have H0:=ah h0
 clear hnew h0
 go_wp2_with fail
 refine(aH.new_any _).mono ?_
 rintro e w3 ⟨g,F,rfl,hd,hk3,hF⟩
 have bn:=ah (fF.out.then hk3)
 have hF':∀k,F k->W0.heap.size<=k:=fun k hk=>by have:=hF k hk;have:=fF.out.size;omega
 have hnw:=fH.out w3 g F 1 1 bn.out hd hF'
 have HNW:=ah hnw
 clear hd hk3 hF hF' hnw fH b0 b1 b2
 obtain⟨b0,b1,b2⟩:=Dp.out w3 bn.out
 go_wp2_with fail
 clear b0 b1 b2
 refine HNW.out.mono ?_
 rintro e w4 ⟨X,rfl,ho,DC⟩
 obtain⟨mb,hmb⟩:∃mb,X.mb=mb:=⟨_,rfl⟩
 rw[hmb]at ho⊢
 have ab6:=(iT H0.out).1
 have afY:=J6 (fl:=fl) H0.out
 have hkr:VU w g mb 0 w4 X (tH ep l fl):=⟨ho,DC,rfl,by rw[afY];exact ab6.1,iw.new oM.out,gQ.new H0.out,Ql _⟩
 have qH:=ah hkr
 clear ho DC hmb ab6 afY hkr HNW H0 Dp
 go_upto_block 0 with fail
 go_cut [] (fun wx=>∃(i:Nat) (M:MR) (X1:MX),i<=60/\VU w g mb i wx X1 M)
 case first=>
  go_wp2_with fail
  go_loopw [10] (fun v10 wr=>∃(i:Nat) (M:MR) (X1:MX),i<=acts.length/\i<=60/\v10=.int .i64 i/\VU w g mb i wr X1 M) (fun v10 _=>acts.length-(intOf v10).toNat)
  case atStart=>exact⟨0,_,X,Nat.zero_le _,Nat.zero_le _,rfl,qH.out⟩
  case round=>
   obtain⟨i,M,X1,hi,hi6,rfl,hkr⟩:=hrel
   clear qH
   have qH:=ah hkr
   clear hkr
   by_cases hil:i<acts.length
   ·by_cases aht:i<60
    ·obtain⟨a,ha⟩:∃a,acts[i]? =some a:=⟨_,List.getElem?_eq_getElem hil⟩
     have ho:=qH.out.own
     have hga:=HG.out a (List.mem_of_getElem? ha)
     obtain⟨f1,f2,f3,f4,f5⟩:=P7 (acg HFW.out aht ha)
     have hxo:=(hga.1.kept ho.kp).ok f1 f3 f4 f5
     have hdo:=afE ho.at' ho.lb (by omega) ho.ok (by omega) qH.out.out a hxo hga.1.i hga.2
     unfold uU at hdo
     have hnx:∀W' X2,Step wr X1 M W' X2 (oJ M a)->dw X2 (oJ M a).lg (2+6*i+6)->VU w g mb (i+1) W' X2 (oJ M a):=fun W' X2 hs hl=>
      ⟨ho.step hs (hl.mono (by omega)) (ho.ok.act a hga.1.i hxo),hs.dk.trans qH.out.g,ach M a qH.out.out,(acB ho.ok a).ep qH.out.ep,qH.out.lok.act ho.ok a hga.1.i hxo hga.1.t.1,qH.out.pk.act ho.ok a,afT M a qH.out.T⟩
     obtain⟨ad,rfl,-,hla⟩:=Ji wr B acts (HA.out.kept ho.kp (fun _ _ z=>z)) i a ha
     simp only[ho.mb]at hdo
     obtain⟨M1,hM1⟩:∃M1,oJ M a=M1:=⟨_,rfl⟩
     simp only[hM1]at hdo hnx
     obtain⟨cs,hcs⟩:∃cs,(oW a).toArray=cs:=⟨_,rfl⟩
     simp only[hcs]at hdo hla
     have HDO:=ah hdo;have nV:=ah hnx
     clear hdo hnx hxo hga f1 f2 f3 f4 f5 ha ho hM1 hcs
     go_wp2_with fail
     clear hla
     refine HDO.out.mono ?_
     rintro e w5 ⟨rfl,X2,hs5,hl5⟩
     have cO:=ah (nV.out w5 X2 hs5 hl5)
     clear hs5 hl5
     go_wp2_with fail
     go_roundw
     case rel=>exact⟨i+1,M1,X2,by omega,by omega,by go_num,cO.out⟩
     case measure=>simp[intOf];omega
    ·obtain rfl:i=60:=by omega
     go_wp2_with fail
     go_meet
     exact⟨60,M,X1,by omega,qH.out⟩
   ·obtain rfl:i=acts.length:=by omega
    go_wp2_with fail
    go_meet
    exact⟨_,M,X1,by omega,qH.out⟩
 case rest=>
  obtain⟨i,M,X1,hi6,hkr⟩:=hcut
  obtain⟨wz,hwz⟩:∃wz,wz=wc:=⟨_,rfl⟩
  subst hwz
  clear qH
  have ho:=hkr.own
  obtain⟨ns,hns,hrun⟩:=hkr.lok.ns
  have hcr:=VR ho.at' ho.lb (by omega) hkr.T n (afV hni).2
  rw[hkr.g]at hcr
  have hFn:∀k,X1.F k->dX X1 M k:=fun k hk=>⟨1,.inl hk⟩
  have hop:∀W n' m' bo R' k',Kept X1.F wz W->yc W X1 M n' m' bo R' k'->Calls Tryz.prog 12 #[.pointer (some ⟨g,0,none⟩)] W fun e w2=>∃(X':MX) (M':MR),e=.returned (.tuple #[.pointer (some ⟨X'.mb,0,none⟩),.int .i64 0])/\dD w2 X' M'/\M'.st=M.st/\M'.pins=M.st.pins/\BD w2 X1 M/\Kept aj w w2:=fun W n' m' bo R' k' hW hc=>by
   have h9:=RQ hc ho.at' ho.lb (by omega) hns hrun hkr.ep
   rw[hkr.g]at h9
   refine h9.mono ?_
   rintro e w2 ⟨X',rfl,a1,a2,a3,a4,a5⟩
   have hk2:Kept X1.F wz w2:=hW.then a5
   exact⟨X',_,rfl,a1,hrun,by show(Mst.runN st0 ns).pins=_;rw[hrun],ho.at'.old hk2,ho.kp.trans hk2 (fun q hq=> .inr (ho.nw q (hFn q hq)))⟩
  have hmb:=ho.mb
  have hst:=ho.ok.st
  have hp3:=ho.ok.p3
  have hpk:=hkr.pk
  have HCR:=ah hcr;have KH:=ah hop;have xG:=ah hmb;have HST:=ah hst;have wH:=ah hp3;have HPK:=ah hpk
  clear hcr hop hmb hst hp3 hpk hFn hns hrun ho hkr
  go_wp2_with fail
  refine HCR.out.mono ?_
  rintro e w5 ⟨rfl,⟨n',m',bo,R',k',hc⟩,hk5⟩
  have hop:=KH.out w5 n' m' bo R' k' hk5 hc
  have afZ:=ah hop
  clear hop hc hk5 HCR KH
  go_wp2_with fail
  refine afZ.out.mono ?_
  rintro e w6 ⟨X',M',rfl,hm',hst',af0,hold,hkw⟩
  obtain⟨kb,hkb⟩:∃kb,X'.mb=kb:=⟨_,rfl⟩
  rw[hkb]
  have HM:=ah hm';have HS:=ah hst';have HPP:=ah af0;have HO:=ah hold;have nJ:=ah hkw;have HKB:=ah hkb
  clear hm' hst' af0 hold hkw hkb afZ
  have hp1:=fun W (hW:Kept aj w6 W)=>ZV (HO.out.quiet hW) (by have:=wH.out;omega)
  have hp2:=fun W (hW:Kept aj w6 W)=>YZ (HM.out.quiet hW) (by rw[HPP.out];have:=HST.out.inv.pl;omega)
  have hsd1:=fun W i (hW:Kept aj w6 W)=>ZX (HO.out.quiet hW) i
  have hsd2:=fun W i (hW:Kept aj w6 W)=>Y0 (HM.out.quiet hW) i
  have VX:=fun W (hW:Kept aj w6 W)=>ZW (HO.out.quiet hW) HST.out.inv.ok
  have G9:=fun W (hW:Kept aj w6 W)=>LZ (HM.out.quiet hW) (by rw[HS.out];exact HST.out.inv.ok)
  have VY:=fun W (hW:Kept aj w6 W)=>VT (HO.out.quiet hW) HST.out.inv.ok
  have VZ:=fun W (hW:Kept aj w6 W)=>U6 (HM.out.quiet hW) (by rw[HS.out];exact HST.out.inv.ok)
  have V2:=fun W (hW:Kept aj w6 W)=>acA (HO.out.quiet hW)
  have V3:=fun W (hW:Kept aj w6 W)=>abH (HM.out.quiet hW)
  simp only[xG.out,HKB.out,HS.out,HPP.out]at hp1 hp2 hsd1 hsd2 VX G9 VY VZ V2 V3
  have hpl:=Jz HPK.out
  have hpi:=HST.out.inv.pin
  have hok:=HST.out.inv.ok
  obtain⟨P,hP⟩:∃P,M.pins=P:=⟨_,rfl⟩
  obtain⟨Q,hQ⟩:∃Q,M.st.pins=Q:=⟨_,rfl⟩
  have hkp:kp M.pins=kp M.st.pins:=HPK.out
  have hl3:=wH.out
  rw[hP,hQ]at hkp hpl
  rw[hP]at hp1 hl3
  simp only[hQ]at hp2 hpi
  have h8:∀q∈Q,q.left=8:=fun q hq=>(hpi q hq).2.2.1
  obtain⟨s,hs⟩:∃s,M.st=s:=⟨_,rfl⟩
  simp only[hs]at hsd1 hsd2 VX G9 VY VZ V2 V3 hok
  have HP1:=ah hp1;have HP2:=ah hp2;have ahu:=ah hsd1;have ahv:=ah hsd2;have ahw:=ah VX;have ahx:=ah G9;have ahy:=ah VY;have ahz:=ah VZ;have ahA:=ah V2;have ahB:=ah V3
  have Lm:=ah hkp;have H8:=ah h8;have yC:=ah hok;have HL3:=ah hl3;have Ez:=ah hpl
  clear hp1 hp2 hsd1 hsd2 VX G9 VY VZ V2 V3 hkp h8 hpi hok hP hQ hs hl3 HM HO HS HPP HST wH HPK hpl
  go_wp2_with fail
  refine(HP1.out w6 (Kept.refl _ _)).mono ?_
  rintro e w7 ⟨A7,d7,rfl,Yo,lN⟩
  have Tf:=ah Yo;have yE:=ah lN
  clear Yo lN
  go_wp2_with fail
  refine(HP2.out w7 yE.out).mono ?_
  rintro e w8 ⟨A8,d8,rfl,DU,hk8⟩
  have acC:=ah (aF.kept Tf.out hk8);have HN8:=ah DU;have vg:=ah (yE.out.then hk8)
  clear DU hk8 Tf
  have hlq:=Ez.out
  obtain⟨np,hnp⟩:∃np,P.length=np:=⟨_,rfl⟩
  rw[hnp]at hlq acC HL3⊢
  rw[<-hlq]at HN8⊢
  have HNP:=ah (And.intro hnp hlq)
  clear hnp hlq Ez
  go_wp2_with fail
  go_loopw [15] (fun v15 wr=>∃j:Nat,j<=np/\v15=.int .i64 j/\Kept aj w8 wr) (fun v15 _=>np-(intOf v15).toNat)
  case atStart=>exact⟨0,Nat.zero_le _,rfl,Kept.refl _ _⟩
  case round=>
   obtain⟨j,hj,rfl,hk⟩:=hrel
   have HK:=ah hk;clear hk
   have hl3:=HL3.out
   by_cases hjl:j<np
   ·obtain⟨p,hp⟩:∃p,P[j]? =some p:=⟨_,List.getElem?_eq_getElem (by rw[HNP.out.1];exact hjl)⟩
    obtain⟨q,hq⟩:∃q,Q[j]? =some q:=⟨_,List.getElem?_eq_getElem (by rw[<-HNP.out.2];exact hjl)⟩
    obtain⟨e1,e2⟩:=afW Lm.out hp hq
    have e8:=H8.out q (List.mem_of_getElem? hq)
    obtain⟨ad,rfl,_,e0,e1',e2'⟩:=jw ((Src.bC acC.out.1).kept HK.out (fun _ _ x=>x)) (by omega) j p hp
    obtain⟨bd,rfl,_,g0,g1,g2⟩:=jw ((Src.bC HN8.out.1).kept HK.out (fun _ _ x=>x)) (by omega) j q hq
    obtain⟨q1,q2,q3⟩:=q
    obtain⟨p1,p2,p3⟩:=p
    dsimp only at e1 e2 e8 e0 e1' e2' g0 g1 g2
    subst e1 e2 e8
    clear hp hq
    go_wp2_with fail
    go_quiet (fail)
    go_wp2
    go_roundw
    case rel=>exact⟨j+1,by omega,by go_num,HK.out.drewN _⟩
    case measure=>simp[intOf];omega
   ·obtain rfl:j=np:=by omega
    have nK:=ah (vg.out.then HK.out)
    clear HK hl3 vg
    go_wp2_with fail
    clear acC HN8 HNP Lm H8
    go_loopw [16] (fun v16 wr=>∃j:Nat,j<=3/\v16=.int .i64 j/\Kept aj w6 wr) (fun v16 _=>3-(intOf v16).toNat)
    case atStart=>exact⟨0,Nat.zero_le _,rfl,nK.out⟩
    case round=>
     obtain⟨q,hq,rfl,hk⟩:=hrel
     clear nK
     have HK:=ah hk;clear hk
     by_cases hq3:q<3
     ·have h1:=ahu.out wr q HK.out
      have h2:=fun W hW=>ahv.out W q hW
      obtain⟨a,ha⟩:∃a,jE s (q:Int)=a:=⟨_,rfl⟩
      have hne:=Qo a
      simp only[ha]at h1 h2
      have H1:=ah h1;have H2:=ah h2
      clear h1 h2 ha
      go_wp2_with fail
      refine H1.out.mono ?_
      rintro e w10 ⟨rfl,hk⟩
      have C4:=ah (HK.out.then hk);clear hk
      go_wp2_with fail
      refine(H2.out w10 C4.out).mono ?_
      rintro e w11 ⟨rfl,hk⟩
      have ahC:=ah (C4.out.then hk);clear hk
      go_wp2_with fail
      go_roundw
      case rel=>exact⟨q+1,by omega,by go_num,ahC.out⟩
      case measure=>simp[intOf];omega
     ·obtain rfl:q=3:=by omega
      go_wp2_with fail
      refine(ahw.out wr HK.out).mono ?_
      rintro e w12 ⟨A12,c12,rfl,af2,hk⟩
      have af4:=ah (Src.bC af2.1);have J4:=ah (HK.out.then hk);clear hk af2
      go_wp2_with fail
      refine(ahx.out w12 J4.out).mono ?_
      rintro e DJ ⟨A13,c13,rfl,af5,hk⟩
      have hsm:=Wq DJ s.ep s.fl s.ep s.fl A12 A13 c12 c13 s.ms s.ms (af4.out.kept hk (fun _ _ z=>z)) (Src.bC af5.1) (by have:=yC.out.m;omega) (by have:=yC.out.m;omega)
      have hb:(s.ep==s.ep&&(s.fl==s.fl&&rV s.ms s.ms))=true:=by simp[rV]
      rw[hb]at hsm
      have HSM:=ah hsm;have ab7:=ah (J4.out.then hk)
      clear hk af5 hsm hb af4
      go_wp2_with fail
      refine HSM.out.mono ?_
      rintro e w14 ⟨rfl,hk⟩
      have af6:=ah (ab7.out.then hk);clear hk
      go_wp2_with fail
      refine(ahy.out w14 af6.out).mono ?_
      rintro e w15 ⟨A15,c15,rfl,af7,hk⟩
      have af8:=ah (Src.bC af7.1);have Pe:=ah (af6.out.then hk);clear hk af7
      go_wp2_with fail
      refine(ahz.out w15 Pe.out).mono ?_
      rintro e w16 ⟨A16,c16,rfl,af9,hk⟩
      have hsi:=Qu w16 A15 A16 c15 c16 s.lg (af8.out.kept hk (fun _ _ z=>z)) (Src.bC af9.1) (by have:=yC.out.l;omega)
      have YY:=ah hsi;have ahD:=ah (Pe.out.then hk)
      clear hk af9 hsi af8
      go_wp2_with fail
      refine YY.out.mono ?_
      rintro e w17 ⟨rfl,hk⟩
      have af':=ah (ahD.out.then hk);clear hk
      go_wp2_with fail
      refine(ahA.out w17 af'.out).mono ?_
      rintro e w18 ⟨rfl,hk⟩
      have aga:=ah (af'.out.then hk);clear hk
      go_wp2_with fail
      refine(ahB.out w18 aga.out).mono ?_
      rintro e w19 ⟨rfl,hk⟩
      have ahE:=ah (aga.out.then hk);clear hk
      go_wp2_with fail
      refine(HAW.out w19).mono ?_
      rintro e w20 ⟨rfl,hk⟩
      have HE:=ah (jv.out _ (nJ.out.then (ahE.out.then hk)));clear hk
      go_wp2
      go_ret
      exact⟨rfl,HE.out⟩
end dH
end Go.Proofs.YtfjdpbbgfjhnlaaGreat

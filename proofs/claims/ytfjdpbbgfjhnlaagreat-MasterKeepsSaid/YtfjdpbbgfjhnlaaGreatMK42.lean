/- Part 43 of what the proof needs. -/
import Derived.Test.YtfjdpbbgfjhnlaaGreatMK41
set_option linter.unusedSimpArgs false
set_option linter.unusedVariables false
set_option maxHeartbeats 32000000
set_option maxRecDepth 100000
namespace Go.Proofs.YtfjdpbbgfjhnlaaGreat
open Go.RowKit
set_option maxRecDepth 100000
namespace dH
open aO Vn Mst lV IM mY gZ DL
theorem acv{x:aG}(hk:MK x)(hE:aQ x=0)(s:bQ)(A B:Option Addr)(c d:Nat):bu s {cl x with mA:=A,mc:=c,lA:=B,lc:=d}=bu s x/\aZ s {cl x with mA:=A,mc:=c,lA:=B,lc:=d}=aZ s x:=by
 have h0:=(VJ hk hE A B c d).1
 have hh:∀y:aG,aQ y=0->bu s y=(if y.k=1 then lW s y else if y.k=5 then (if bY s.ms y.n=true then 0 else 7)else if y.k=4 then (if y.at'<s.hz then 18 else 0)else if y.k=6 then pJ s y.pin else if y.k=7 then 0 else if y.k=8 then (if y.said.req<(toldOf s y.said.cl).req then 18 else 0)else 11):=fun y hy=>by
  unfold bu
  rw[if_neg (by rw[hy];decide)]
 have key:∀y:aG,aQ y=0->bu s y=bu s x->y.k=x.k->(x.k=1->y.ep=x.ep/\y.ms=x.ms/\y.fl=x.fl/\y.lg=x.lg)->(x.k=5\/x.k=7->y.n=x.n)->(x.k=4->y.at'=x.at')->(x.k=6->y.pin=x.pin)->(x.k=8->y.said=x.said)->bu s y=bu s x/\aZ s y=aZ s x:=fun y h1 h2 h3 h4 h5 h6 h7 h8=>by
  refine⟨h2,?_⟩
  unfold aZ
  rw[h2,h3]
  rcases hk with e|e|e|e|e|e
  ·obtain⟨a,b,c,d⟩:=h4 e
   rw[a,b,c,d]
   simp[e]
  ·rw[h6 e];simp[e]
  ·rw[h5 (.inl e)];simp[e]
  ·rw[h7 e];simp[e]
  ·rw[h5 (.inr e)];simp[e]
  ·rw[h8 e];simp[e]
 obtain⟨y,hy⟩:∃y:aG,{cl x with mA:=A,mc:=c,lA:=B,lc:=d}=y:=⟨_,rfl⟩
 rw[hy]at h0⊢
 rcases hk with e|e|e|e|e|e
 ·have ec:cl x={nz 1 with ep:=x.ep,ms:=x.ms,fl:=x.fl,lg:=x.lg}:=by unfold cl;rw[if_pos e]
  rw[ec]at hy
  have k1:y.k=1:=by rw[<-hy];rfl
  refine key y h0 ?_ (k1.trans e.symm) (fun _=>by rw[<-hy];exact⟨rfl,rfl,rfl,rfl⟩) (fun h=>by omega) (fun h=>by omega) (fun h=>by omega) (fun h=>by omega)
  rw[hh y h0,hh x hE,if_pos k1,if_pos e,<-hy]
  rfl
 ·have ec:cl x={nz 4 with n:=x.n,at':=x.at'}:=by unfold cl;rw[if_neg (by omega),if_pos e]
  rw[ec]at hy
  have k1:y.k=4:=by rw[<-hy];rfl
  refine key y h0 ?_ (k1.trans e.symm) (fun h=>by omega) (fun h=>by omega) (fun _=>by rw[<-hy]) (fun h=>by omega) (fun h=>by omega)
  rw[hh y h0,hh x hE,k1,e,<-hy]
  rfl
 ·have ec:cl x={nz 5 with n:=x.n}:=by unfold cl;rw[if_neg (by omega),if_neg (by omega),if_pos e]
  rw[ec]at hy
  have k1:y.k=5:=by rw[<-hy];rfl
  refine key y h0 ?_ (k1.trans e.symm) (fun h=>by omega) (fun _=>by rw[<-hy]) (fun h=>by omega) (fun h=>by omega) (fun h=>by omega)
  rw[hh y h0,hh x hE,k1,e,<-hy]
  rfl
 ·have ec:cl x={nz 6 with pin:=x.pin}:=by unfold cl;rw[if_neg (by omega),if_neg (by omega),if_neg (by omega),if_pos e]
  rw[ec]at hy
  have k1:y.k=6:=by rw[<-hy];rfl
  refine key y h0 ?_ (k1.trans e.symm) (fun h=>by omega) (fun h=>by omega) (fun h=>by omega) (fun _=>by rw[<-hy]) (fun h=>by omega)
  rw[hh y h0,hh x hE,k1,e,<-hy]
  rfl
 ·have ec:cl x={nz 7 with n:=x.n}:=by unfold cl;rw[if_neg (by omega),if_neg (by omega),if_neg (by omega),if_neg (by omega),if_pos e]
  rw[ec]at hy
  have k1:y.k=7:=by rw[<-hy];rfl
  refine key y h0 ?_ (k1.trans e.symm) (fun h=>by omega) (fun _=>by rw[<-hy]) (fun h=>by omega) (fun h=>by omega) (fun h=>by omega)
  rw[hh y h0,hh x hE,k1,e]
  simp
 ·have ec:cl x={nz 8 with said:=x.said}:=by unfold cl;rw[if_neg (by omega),if_neg (by omega),if_neg (by omega),if_neg (by omega),if_neg (by omega)]
  rw[ec]at hy
  have k1:y.k=8:=by rw[<-hy];rfl
  refine key y h0 ?_ (k1.trans e.symm) (fun h=>by omega) (fun h=>by omega) (fun h=>by omega) (fun h=>by omega) (fun _=>by rw[<-hy])
  rw[hh y h0,hh x hE,k1,e,<-hy]
  rfl
structure acw(l:List ByteArray)(ns:List aG):Prop where
 l:l=ns.map kT
 k:∀x∈ns,MK x/\aQ x=0/\NU x
theorem TE{ns:List aG}:∀{s:bQ},qG s->(∀x∈ns,NU x)->qG (Mst.runN s ns):=by
 induction ns with
 |nil=>intro s h _;exact h
 |cons a ns ih=>intro s h hu;exact ih (h.apply (hu a (List.mem_cons_self))) (fun x hx=>hu x (List.mem_cons_of_mem _ hx))
def FP(L:oq)(ns:List aG):MR:={mk0 L with st:=Mst.runN st0 ns,pins:=(Mst.runN st0 ns).pins}
def ZN(w:World)(g:Nat)(F:Nat->Prop)(L:oq)(ns:List aG)(n:Nat)(e:Ending)(w':World):Prop:=
 ∃X,e=.returned (.tuple #[.pointer (some ⟨X.mb,0,none⟩),.int .i64 0])/\dD w' X (FP L ns)/\X.g=g/\X.n=n/\X.ps=[]/\(∀k,dX X (FP L ns) k->F k\/w.heap.size<=k)/\Kept F w w'
attribute [local go_sem↓] uO DN
theorem Qj(x f:Int)(A:Option Addr)(n c:Nat)(W:World):(Instr.field 25 (.agg #[.int .i64 x,.slice A n c,.int .u64 f]) 0).run Tryz.prog W=.ok (.int .i64 x) W:=by kernel_rfl
attribute [local go_sem] Qj
attribute [local go_sem] uP
theorem ZO(w:World)(g n:Nat)(F:Nat->Prop)(m:aH.Safe)(aU aK first:Int)(R':Wl.St)(k:Nat)(l:List ByteArray)(ns:List aG)(hd:aH.aX w g F n m [] aU aK)(hn:n<=100000)(hl:Wl.Log first R' [] m [])(hlo:Pt.qo first m [])(hh:Pt.Hd R')(ht:Wl.texts R'=Pt.jT k l)
  (hk:k<=l.length) (hkt:k+1<=(Wl.texts R').length) (hkb:k<=1073741824) (h1:1<=first) (h2:first+R'.length<=1073741824) (h3:R'.length<=100000) (hs:∀s∈l,s.size<65536) (hll:l.length<=100000) (hns:acw l ns) (lS:(Mst.runN st0 ns).ep≠0):
  Calls Tryz.prog 12 #[.pointer (some ⟨g,0,none⟩)] w (ZN w g F ⟨first,R',[],l⟩ ns n):=by
 have Ep:=hd.lt
 have hpo:Calls Tryz.prog 35 #[.pointer (some ⟨g,0,none⟩)] w fun e w'=>∃gp gw A c m2,e=.returned (.tuple #[.pointer (some ⟨gp,0,none⟩),.int .i64 0])/\Pt.lu w' w.heap.size gp gw g F n m2 [] aU aK first R' [] A c l/\w.heap.size<=gp/\w.heap.size<=gw/\Kept F w w':=by
  obtain⟨f1,f2,f3,f4⟩:=Pt.found hl hh ht hkb
  have hif:=hlo.bW hl
  have hlen:=hh.len
  have e0:first+((0:Nat):Int)=first:=by omega
  refine(Pt.Yl hd hn first R'.length 0 (R'.length-1) k R' hif h1 h2 hlen (fun x=>Nat.le_trans (hlo.low.size hl x) (by decide)) f1 f2 f3 (by omega) (by rw[f4,List.length_map];exact hk) (by
   rw[e0]
   exact Pt.GX hl (by omega)) h3).mono ?_
  rintro e w' ⟨gp',zK,A',c',he,p1,p2,p3,p4,p5,p6,p7⟩
  rw[f4]at p1 p4
  rw[List.length_map]at p1 p4
  rw[e0]at p1 p2 p3
  rw[Pt.Yr]at p4
  exact⟨gp',zK,A',c',_,he,⟨p3,p1,p2,p4,Pt.GX hl (by omega),⟨fun x hx=>by unfold Pt.rP;rw[if_neg (by omega)],fun p hp=>by cases hp⟩,h1,⟨k,by rw[List.append_nil];exact ht,hkt⟩,hs⟩,p5,p6,p7⟩
 have zy:=ah hpo;have ZP:=ah hns;have HEP:=ah lS;have HF:=ah Ep;have lM:=ah hll
 clear hd hn hl hlo hh ht hk hkt hkb h1 h2 h3 hs hpo hns lS Ep hll
 go_enter Tryz.func12,Tryz.ntmps12
 go_wp2_with fail
 refine zy.out.mono ?_
 rintro e w2 ⟨gp,gw,A0,c0,m2,rfl,hpt,hgp,hgw,hk2⟩
 have hx0:rX w2 ⟨0,gp,gw,g,0,0,0,0,0,0,0,F,fun _=>False,none,0,none,0,A0,c0,n,m2,[],aU,aK⟩ ⟨first,R',[],l⟩:=⟨hpt.d,hpt.p,hpt.wl,⟨hpt.row.1,fun _ _=>Nat.zero_le _⟩,hpt.log,hpt.low,hpt.f1,hpt.tx,hpt.hs⟩
 have hpf:∀k,Pt.PF gp gw F A0 l.length c0 k->F k\/w.heap.size<=k:=fun k hk=>by
  rcases hk with hk|hk|hk|hk
  ·exact .inl hk
  ·exact .inr (by omega)
  ·exact .inr (by omega)
  ·exact .inr (hpt.row.2 k hk)
 have HX0:=ah hx0;have HPF:=ah hpf;have aW:=ah hk2
 clear hx0 hpf hk2 hpt hgp hgw zy
 go_wp2_with fail
 refine(Pn _ ⟨first,R',[],l⟩ HX0.out).mono ?_
 rintro e w3 ⟨X,rfl,hm,hft,hk3,DC,Pv,G8,-,-,acy⟩
 dsimp only at DC Pv G8 acy
 have hpp:Pt.lu w3 0 X.gp X.gw X.g X.F X.n X.m X.ps X.aU X.aK first R' [] X.A X.c l:=hm.c 1
 have htx:=Pt.UQ hpp.p (Src.bC hpp.row.1) (by have:=lM.out;omega)
 rw[acy]at htx
 obtain⟨mb,hmb⟩:∃mb,X.mb=mb:=⟨_,rfl⟩
 rw[hmb]
 have Fz:∀k,dX X (mk0 ⟨first,R',[],l⟩) k->F k\/w.heap.size<=k:=fun k hk=>by
  rcases hft k hk with y|y
  ·exact HPF.out k y
  ·have:=aW.out.size;exact .inr (by omega)
 have LX:=ah htx;have yM:=ah hm;have Py:=ah Fz;have bn:=ah (aW.out.then (Kept.up hk3));have HXG:=ah (And.intro DC (And.intro Pv G8));have xG:=ah hmb
 clear hm hft hk3 DC Pv G8 acy hpp htx Fz hmb HX0 HPF aW
 obtain⟨nl,hnl⟩:∃nl,l.length=nl:=⟨_,rfl⟩
 rw[hnl]at LX
 have HNL:=ah hnl
 clear hnl
 go_wp2_with fail
 refine LX.out.mono ?_
 rintro e w4 ⟨A1,c1,rfl,hrow,hb4⟩
 have hk4:Kept aj w3 w4:=Kept.of_below hb4 (fun k hk _=>hk)
 have bV:=ah hrow;have qW:=ah (Step.refl yM.out hk4)
 clear hrow hb4 hk4
 go_wp2_with fail
 go_loopw [25] (fun v25 wr=>∃(i:Nat) (uf:Nat->Prop),i<=nl/\v25=.int .i64 i/\Step w3 X (mk0 ⟨first,R',[],l⟩) wr {X with FS:=uf} {mk0 ⟨first,R',[],l⟩with st:=Mst.runN st0 (ns.take i)}/\aF 9 1 w3.heap.size wr A1 nl c1 (l.map Value.string)/\(∀k,(Value.slice A1 nl c1).ownBlock=some k->¬uf k)) (fun v25 _=>nl-(intOf v25).toNat)
 case atStart=>exact⟨0,X.FS,Nat.zero_le _,rfl,qW.out,bV.out,fun k hk hf=>by have h1:=bV.out.2 k hk;have h2:=yM.out.lt ⟨2,hf⟩;omega⟩
 case round=>
  obtain⟨i,uf,hi,rfl,hst,hrow,hoff⟩:=hrel
  clear bV
  have HST:=ah hst;have bV:=ah hrow;have pR:=ah hoff
  clear hst hrow hoff qW
  have aij:nl<=100000:=by rw[<-HNL.out];exact lM.out
  have hnn:ns.length=nl:=by rw[<-HNL.out,ZP.out.l,List.length_map]
  by_cases hin:i<nl
  ·obtain⟨x,hx⟩:∃x,ns[i]? =some x:=⟨_,List.getElem?_eq_getElem (by omega)⟩
   obtain⟨hk,hE,hU⟩:=ZP.out.k x (List.mem_of_getElem? hx)
   have hlx:l[i]? =some (kT x):=by rw[ZP.out.l,List.getElem?_map,hx];rfl
   have Kq:qG (Mst.runN st0 (ns.take i)):=TE EN (fun y hy=>(ZP.out.k y (List.mem_of_mem_take hy)).2.2)
   have hstep:Mst.runN st0 (ns.take (i+1))=aZ (Mst.runN st0 (ns.take i)) x:=by
    rw[List.take_add_one,hx,Option.toList_some,Mst.ng];rfl
   obtain⟨ad,rfl,had,hcell⟩:=(Src.bC bV.out.1).2 (by omega)
   have c0:wr.cell? (ad.add i)=some (.string (kT x)):=by
    refine hcell i _ ?_
    rw[List.getElem?_map,hlx];rfl
   have hof:=ad6 wr x hk hE hU
   have HOF:=ah hof;have HX:=ah (And.intro hk (And.intro hE hU));have afR:=ah Kq;have ac5:=ah hstep
   clear hx hk hE hU hlx Kq hstep had hcell hof hnn
   go_wp2_with fail
   clear c0
   refine HOF.out.mono ?_
   rintro e w5 ⟨A,c,B,d,rfl,hms,Jn,hk5⟩
   obtain⟨y,hy⟩:∃y:aG,{cl x with mA:=A,mc:=c,lA:=B,lc:=d}=y:=⟨_,rfl⟩
   obtain⟨Wz,W6,zN,vY,hy6,hk6⟩:=Qi w5 y
   have afS:iI W6 y:=by
    have hcl:=VJ HX.out.1 HX.out.2.1 A B c d
    rw[<-hy]
    have g1:=hms.kept hk6
    have g2:=Jn.kept hk6
    exact⟨Src.bC g1.1,(fV g1.1).1,by show(cl x).ms.length<=1000;omega,Src.bC g2.1,(fV g2.1).1,by show(cl x).lg.length<=1000;omega,by show Src W6 3 (cl x).oA (cl x).b.ops.length (Ops.cells (cl x).b.ops);rw[(VK x).1,(VK x).2.1];exact Src.nil _ _ _⟩
   have hap:=acv HX.out.1 HX.out.2.1 (Mst.runN st0 (ns.take i)) A B c d
   rw[hy]at hap
   have hs6:Step w3 X (mk0 ⟨first,R',[],l⟩) W6 {X with FS:=uf} {mk0 ⟨first,R',[],l⟩with st:=Mst.runN st0 (ns.take i)}:=HST.out.quiet (hk5.then hk6)
   have q2:W6.cell? ⟨mb,2,none⟩=some (.pointer (some ⟨X.sb,0,none⟩)):=by rw[<-xG.out];exact hs6.at'.cell (i:=2) rfl
   obtain⟨u1,u2⟩:=uQ rfl hy6
   obtain⟨sb,hsb⟩:∃sb,X.sb=sb:=⟨_,rfl⟩
   have happ:∀W,Kept aj W6 W->Calls Tryz.prog 38 #[.pointer (some ⟨sb,0,none⟩),Mst.fE y] W fun e w'=>∃(z:Int) (Qk:Nat->Prop),e=.returned (.int .i64 z)/\Step w3 X (mk0 ⟨first,R',[],l⟩) w' {X with FS:=Qk} {mk0 ⟨first,R',[],l⟩with st:=Mst.runN st0 (ns.take (i+1))}/\(w'.cell? ⟨mb,2,none⟩=some (.pointer (some ⟨sb,0,none⟩))/\Bq w' ⟨w5.heap.size,0,none⟩/\wV w' ⟨w5.heap.size,0,none⟩=(aJ y).toArray)/\aF 9 1 w3.heap.size w' (some ad) nl c1 (l.map Value.string)/\(∀k,(Value.slice (some ad) nl c1).ownBlock=some k->¬Qk k):=fun W hW=>by
    have hsW:=hs6.quiet hW
    have hrW:=(bV.out.kept (hk5.then hk6)).kept hW
    rw[<-hsb]
    refine(KL W X.sb uf (Mst.runN st0 (ns.take i)) y (hsW.at'.c 2) afR.out.inv.ok (afS.kept hW)).mono ?_
    rintro e w' ⟨Qk,rfl,hst,hg,hk⟩
    have hs7:Step w3 X (mk0 ⟨first,R',[],l⟩) w' {X with FS:=Qk} {mk0 ⟨first,R',[],l⟩with st:=Mst.runN st0 (ns.take (i+1))}:=by rw[ac5.out,<-hap.2];exact hsW.trans (dD.setSt hsW.at' hst hg hk)
    refine⟨_,Qk,rfl,hs7,⟨by rw[<-xG.out];exact hs7.at'.cell (i:=2) rfl,uQ rfl ((hy6.kept hW (fun z=>z)).kept hk (fun hf=>by have h1:=HST.out.at'.lt ⟨2,hf⟩;have:=hk5.size;omega))⟩,⟨aC hrW.1 hk (fun k hk2 hf=>pR.out k hk2 hf),hrW.2⟩,fun k hk2 hf=> ?_⟩
    rcases hg k hf with h1|h1
    ·exact pR.out k hk2 h1
    ·have:=lH hrW.1 hk2;omega
   obtain⟨cs,hcs⟩:∃cs,(aJ y).toArray=cs:=⟨_,rfl⟩
   unfold Mst.fE at happ⊢
   rw[hy]
   simp only[hcs]at happ u2 vY⊢
   have abo:=ah happ
   obtain⟨nb,hnb⟩:∃nb,w5.heap.size=nb:=⟨_,rfl⟩
   have Sm:=ah hnb
   have y0:=And.intro q2 (And.intro u1 u2)
   have IL:=ah hsb
   rw[hsb]at y0
   clear happ hy afS hap hs6 hy6 hk5 hk6 hms Jn hcs q2 u1 u2 hnb hsb HOF HX afR ac5 HST
   go_wp2_with fail
   clear zN vY
   go_region_held3 (fun W=>W.cell? ⟨mb,2,none⟩=some (.pointer (some ⟨sb,0,none⟩))/\Bq W ⟨w5.heap.size,0,none⟩/\wV W ⟨w5.heap.size,0,none⟩=cs)
    (first|with_reducible exact y7|with_reducible exact y0|exact y0)
    (first|(go_at_call 38;refine(abo.out _ (by(repeat'(first|(with_reducible first|exact ak|apply au|apply ay|apply aA|apply aB)|(right;simp;done))))).mono ?_;rintro e w7 ⟨z7,Qk,rfl,hs7,y7,hr7,sG⟩;have qg:=ah hs7;have HR7:=ah hr7;have HO7:=ah sG;clear hs7 hr7 sG))
   all_goals
    go_wp2
    go_roundw
    case rel=>exact⟨i+1,Qk,by omega,by go_num,qg.out,HR7.out,HO7.out⟩
    case measure=>simp[intOf];omega
  ·obtain rfl:i=nl:=by omega
   have he:ns.take i=ns:=List.take_of_length_le (by omega)
   have hst:=HST.out
   rw[he]at hst
   obtain⟨s,hs⟩:∃s,Mst.runN st0 ns=s:=⟨_,rfl⟩
   have Kq:qG s:=by rw[<-hs];exact TE EN (fun y hy=>(ZP.out.k y hy).2.2)
   have lS:=HEP.out
   rw[hs]at hst lS
   have hez:(s.ep==0)=false:=by simpa using lS
   obtain⟨sb,hsb⟩:∃sb,X.sb=sb:=⟨_,rfl⟩
   have q2:wr.cell? ⟨mb,2,none⟩=some (.pointer (some ⟨sb,0,none⟩)):=by rw[<-xG.out,<-hsb];exact hst.at'.cell (i:=2) rfl
   have hcf:=pN (hst.at'.c 2) Kq.inv.ok
   rw[show({X with FS:=uf}:MX).sb=sb from hsb]at hcf
   have Bv:=ah hcf;have yJ:=ah hst;have HSK:=ah Kq;have IL:=ah hsb;have tV:=ah hs
   clear he hst hs Kq lS hcf hsb hnn HST bV pR
   go_wp2_with fail
   clear q2
   refine Bv.out.mono ?_
   rintro e w6 ⟨A2,c2,rfl,hn2,hk6⟩
   unfold lq
   have vY:=yJ.out.quiet hk6
   have q2:w6.cell? ⟨mb,2,none⟩=some (.pointer (some ⟨sb,0,none⟩)):=by rw[<-xG.out,<-IL.out];exact vY.at'.cell (i:=2) rfl
   have hpi:=Fg (vY.at'.c 2) HSK.out.inv.ok
   rw[show({X with FS:=uf}:MX).sb=sb from IL.out]at hpi
   have uJ:=ah hpi;have y8:=ah vY
   clear hn2 hk6 vY hpi
   go_wp2_with fail
   clear q2
   refine uJ.out.mono ?_
   rintro e w7 ⟨A3,c3,rfl,hn3,lN⟩
   have E4:=y8.out.quiet lN
   have q3:w7.cell? ⟨mb,3,none⟩=some (.slice X.pA 0 X.pc):=by rw[<-xG.out];exact E4.at'.cell (i:=3) rfl
   have qf3:w7.frozen? ⟨mb,3,none⟩=false:=by rw[<-xG.out];exact Has.frozen (E4.at'.c 0) 3
   have hfin:=E4.Bo (A:=A3) (c:=c3) (l:=s.pins) hn3.1 (fun k hk=>⟨Nat.le_trans (Nat.le_trans y8.out.k.size (Nat.le_refl _)) (hn3.2 k hk),fun hf=>by have h1:=y8.out.at'.lt hf;have h2:=hn3.2 k hk;omega⟩)
   have bP:=ah hfin
   clear hn3 lN E4 hfin
   go_wp2
   go_ret2
   have h:=bP.out
   have e9:=xG.out
   subst e9
   refine⟨{X with FS:=uf,pA:=A3,pc:=c3},rfl,?_,HXG.out.1,HXG.out.2.1,HXG.out.2.2,fun k hk=> ?_,bn.out.trans h.k (fun k hk=>Py.out k hk)⟩
   ·have h2:=h.at'
    unfold FP
    rw[tV.out]
    exact h2
   ·unfold FP at hk
    rw[tV.out]at hk
    rcases h.g k hk with y|y
    ·exact Py.out k y
    ·have:=bn.out.size;exact .inr (by omega)
end dH
namespace Mst
open aO Vn Go.Sort
theorem ZQ{s:bQ}{pre:List aG}(h:Inv s)(hpre:(pre=[]/\¬0<s.ep)\/(0<s.ep/\∃A c B d,pre=[lY s A c B d])):
  oO st0 (pre++s.pins.map gI++jI s++[dV s.hz]++dI (iL s))/\runN st0 (pre++s.pins.map gI++jI s++[dV s.hz]++dI (iL s))=s:=by
 have c1:oO st0 pre/\runN st0 pre={st0 with ep:=s.ep,ms:=s.ms,fl:=s.fl,lg:=s.lg}:=by
  rcases hpre with⟨rfl,h0⟩|⟨h0,A,c,B,d,rfl⟩
  ·rcases h.conf with⟨e1,e2,e3,e4⟩|⟨e1,_⟩
   ·rw[e1,e2,e3,e4];exact⟨trivial,rfl⟩
   ·have:=(iT e1).1;omega
  ·rcases h.conf with⟨e1,_⟩|⟨e1,e2,e3,e4,e5⟩
   ·omega
   ·have hk:(lY s A c B d).k=1:=rfl
    have hne:aQ (lY s A c B d)=0:=by
     unfold aQ
     rw[if_pos hk]
     show(if chk s.ep s.ms=0 then mV s.lg else chk s.ep s.ms)=0
     rw[if_pos e1,e2]
    have hnx:lW st0 (lY s A c B d)=0:=by
     unfold lW
     rw[if_neg (by show¬s.ep<=0;omega),if_neg,if_neg]
     ·show¬inB s.lg (nH s.ms)=false
      rw[rO.2 e4];decide
     ·show¬(s.lg.any fun id=> !bY s.ms id)=true
      rw[List.any_eq_true]
      rintro⟨x,hx,hn⟩
      rw[e3 x hx]at hn
      cases hn
    have hE:bu st0 (lY s A c B d)=0:=by
     unfold bu
     rw[if_neg (by rw[hne];decide),if_pos hk]
     exact hnx
    refine⟨⟨hE,trivial⟩,?_⟩
    show aZ st0 (lY s A c B d)=_
    unfold aZ
    rw[if_neg (by rw[hE];decide),if_pos hk]
    rfl
 have ht:=h.top
 have ahr:∀p∈s.pins,1<=p.id/\p.id<=1073741824/\p.left=8/\0<=p.at':=fun p hp=>by
  obtain⟨a1,a2,a3,a4⟩:=h.pin p hp
  exact⟨a1,by omega,a3,a4⟩
 have c2:=Ph {st0 with ep:=s.ep,ms:=s.ms,fl:=s.fl,lg:=s.lg} rfl s.pins [] h.pl h.xg ahr
 have hlast:gu s.pins<=s.top:=by
  rcases EL s.pins with⟨_,e⟩|⟨p,hp,e⟩
  ·rw[e];exact ht.1
  ·rw[e];exact(h.pin p hp).2.1
 have c3:oO {st0 with ep:=s.ep,ms:=s.ms,fl:=s.fl,lg:=s.lg,pins:=s.pins,top:=gu s.pins} (jI s)/\runN {st0 with ep:=s.ep,ms:=s.ms,fl:=s.fl,lg:=s.lg,pins:=s.pins,top:=gu s.pins} (jI s)={st0 with ep:=s.ep,ms:=s.ms,fl:=s.fl,lg:=s.lg,pins:=s.pins,top:=s.top}:=by
  unfold jI
  split
  ·rename_i hu
   obtain⟨p,hp,he⟩:=List.any_eq_true.1 hu
   have e1:p.id=s.top:=of_decide_eq_true he
   have:=YM h.xg p hp
   have e2:gu s.pins=s.top:=by omega
   rw[e2];exact⟨trivial,rfl⟩
  ·rename_i hu
   have hno:∀p∈s.pins,p.id≠s.top:=fun p hp e=>hu (List.any_eq_true.2 ⟨p,hp,decide_eq_true e⟩)
   have hk:(wu s.top).k=7:=rfl
   have hne:aQ (wu s.top)=0:=by
    unfold aQ
    rw[if_neg (by omega),if_neg (by omega),if_pos (by omega)]
    exact U0 ht
   have hE:bu {st0 with ep:=s.ep,ms:=s.ms,fl:=s.fl,lg:=s.lg,pins:=s.pins,top:=gu s.pins} (wu s.top)=0:=by
    unfold bu
    rw[if_neg (by rw[hne];decide),if_neg (by omega),if_neg (by omega),if_neg (by omega),if_neg (by omega),if_pos hk]
   refine⟨⟨hE,trivial⟩,?_⟩
   show aZ _ (wu s.top)=_
   unfold aZ
   rw[if_neg (by rw[hE];decide),if_neg (by omega),if_neg (by omega),if_neg (by omega),if_neg (by omega),if_pos hk]
   show({st0 with ep:=s.ep,ms:=s.ms,fl:=s.fl,lg:=s.lg,pins:=freed s.pins s.top,top:=max (gu s.pins) s.top}:bQ)=_
   rw[abz hno,show max (gu s.pins) s.top=s.top by omega]
 have c4:oO {st0 with ep:=s.ep,ms:=s.ms,fl:=s.fl,lg:=s.lg,pins:=s.pins,top:=s.top} [dV s.hz]/\runN {st0 with ep:=s.ep,ms:=s.ms,fl:=s.fl,lg:=s.lg,pins:=s.pins,top:=s.top} [dV s.hz]={st0 with ep:=s.ep,ms:=s.ms,fl:=s.fl,lg:=s.lg,pins:=s.pins,top:=s.top,hz:=s.hz}:=by
  have hk:(dV s.hz).k=4:=rfl
  have hne:aQ (dV s.hz)=0:=by
   unfold aQ
   rw[if_neg (by omega),if_neg (by omega),if_pos (by omega)]
   exact U0 (x:=0) ⟨by decide,by decide⟩
  have hE:bu {st0 with ep:=s.ep,ms:=s.ms,fl:=s.fl,lg:=s.lg,pins:=s.pins,top:=s.top} (dV s.hz)=0:=by
   unfold bu
   rw[if_neg (by rw[hne];decide),if_neg (by omega),if_neg (by omega),if_pos hk]
   rw[if_neg (by show¬s.hz<0;have:=h.hz;omega)]
  refine⟨⟨hE,trivial⟩,?_⟩
  show aZ _ (dV s.hz)=_
  unfold aZ
  rw[if_neg (by rw[hE];decide),if_neg (by omega),if_neg (by omega),if_pos hk]
  rfl
 have c5:=YN {st0 with ep:=s.ep,ms:=s.ms,fl:=s.fl,lg:=s.lg,pins:=s.pins,top:=s.top,hz:=s.hz} s h rfl rfl rfl
 have e0:(({st0 with ep:=s.ep,ms:=s.ms,fl:=s.fl,lg:=s.lg}:bQ))={st0 with ep:=s.ep,ms:=s.ms,fl:=s.fl,lg:=s.lg,pins:=[],top:=gu []}:=rfl
 have q2:oO st0 (pre++s.pins.map gI):=pP c1.1 (by rw[c1.2];exact c2.1)
 have p2:=ng st0 pre (s.pins.map gI)
 rw[c1.2]at p2
 have p2:=p2.trans c2.2
 have q3:=pP q2 (b:=jI s) (by rw[p2];exact c3.1)
 have p3:=ng st0 (pre++s.pins.map gI) (jI s)
 rw[p2]at p3
 have p3':=p3.trans c3.2
 have q4:=pP q3 (b:=[dV s.hz]) (by rw[p3'];exact c4.1)
 have p4:=ng st0 (pre++s.pins.map gI++jI s) [dV s.hz]
 rw[p3']at p4
 have p4':=p4.trans c4.2
 refine⟨pP q4 (by rw[p4'];exact c5.1),?_⟩
 rw[ng,p4']
 exact c5.2
end Mst
namespace dH
open aO Vn Mst lV IM mY gZ DL MO
theorem VN{l:List aG}:∀{s:bQ},oO s l->∀x∈l,MK x/\aQ x=0:=by
 induction l with
 |nil=>intro s _ x hx;cases hx
 |cons a l ih=>
  intro s h x hx
  rcases List.mem_cons.1 hx with rfl|hx
  ·refine⟨?_,mZ h.1⟩
   have:=Aj h.1
   unfold MK
   omega
  ·exact ih h.2 x hx
theorem VO{l:List aG}(h:∀x∈l,aQ x=0):fG l=l.map kT:=by
 unfold fG
 rw[List.filter_eq_self.2 (fun x hx=>decide_eq_true (h x hx))]
theorem ZR{s:bQ}(h:qG s):oO st0 (lT s)/\Mst.runN st0 (lT s)=s/\∀x∈lT s,NU x:=by
 have hp:((if 0<s.ep then [lY s none 0 none 0]else([]:List aG))=[]/\¬0<s.ep)\/(0<s.ep/\∃A c B d,(if 0<s.ep then [lY s none 0 none 0]else([]:List aG))=[lY s A c B d]):=by
  by_cases h0:0<s.ep
  ·exact .inr ⟨h0,none,0,none,0,if_pos h0⟩
  ·exact .inl ⟨if_neg h0,h0⟩
 obtain⟨h1,h2⟩:=Mst.ZQ h.inv hp
 refine⟨h1,h2,G5 h.su _ (fun x hx=> ?_)⟩
 have z:(0:Int)<=0/\(0:Int)<=aT:=by decide
 split at hx
 ·rw[List.mem_singleton.1 hx];exact⟨z,z,h.su.fl,z⟩
 ·cases hx
structure iw(M:MR):Prop where
 ns:∃ns,acw M.lg.l ns/\Mst.runN st0 ns=M.st
theorem iw.of{M M':MR}(h:iw M)(h1:M'.lg.l=M.lg.l)(h2:M'.st=M.st):iw M':=by
 obtain⟨ns,a,b⟩:=h.ns
 exact⟨ns,by rw[h1];exact a,by rw[h2];exact b⟩
section
variable{M:MR}{k c:Nat}
theorem iw.write(h:iw M){x:aG}(hu:NU x):iw (writeM M x):=by
 unfold writeM
 split
 ·rename_i he
  obtain⟨ns,a,b⟩:=h.ns
  refine⟨ns++[x],⟨?_,fun y hy=> ?_⟩,?_⟩
  ·show M.lg.l++[kT x]=_
   rw[a.l,List.map_append];rfl
  ·rcases List.mem_append.1 hy with hy|hy
   ·exact a.k y hy
   ·obtain rfl:=List.mem_singleton.1 hy
    have:=Aj he
    exact⟨by unfold MK;omega,mZ he,hu⟩
  ·rw[Mst.ng,b];rfl
 ·exact h
theorem iw.send(h:iw M)(tt:Int)(x:bF):iw (iU M tt x):=by
 unfold iU
 split
 ·exact h.of rfl rfl
 ·exact h
theorem iw.done(h:iw M)(hs:qG M.st):iw (l7 M):=by
 obtain⟨ns,a,b⟩:=h.ns
 unfold l7
 split
 ·obtain⟨h1,h2,h3⟩:=ZR hs
  have h4:=VN h1
  refine⟨lT M.st,⟨?_,fun x hx=>⟨(h4 x hx).1,(h4 x hx).2,h3 x hx⟩⟩,h2⟩
  exact VO (fun x hx=>(h4 x hx).2)
 ·exact⟨ns,a,b⟩
theorem iw.kY(h:iw M)(id:Int)(x:bF)(h0:0<=id):iw (kY M id x):=by
 have h1:iw (iM M id x):=by
  unfold iM
  split
  ·split
   ·exact h.of rfl rfl
   split
   ·exact iw.write (M:=jV M id x) (h.of rfl rfl) (qx 5 id ⟨0,0,0⟩ (by decide) (by decide))
   ·exact h.of rfl rfl
  split
  ·exact h.of rfl rfl
  ·exact h.of rfl rfl
 unfold dH.kY
 split
 ·exact h1.send _ _
 ·exact h1
theorem iw.mW(h:iw M)(hm:bD M k)(at':Int)(ha:0<=at'/\at'<=aT):iw (mW M at'):=by
 unfold dH.mW
 split
 ·exact h
 ·split
  ·exact h
  ·exact iw.of (h.write (qx 6 0 ⟨M.st.top+1,at',8⟩ ha (by have:=hm.st.inv.top;dsimp only;omega))) rfl rfl
theorem iw.fB(h:iw M)(hm:bD M k)(x:bF)(ha:0<=x.at'/\x.at'<=aT):iw (fB M x):=by
 unfold dH.fB
 split
 ·exact h.mW hm _ ha
 split
 ·exact h
 ·rename_i p hp
  have hpm:p∈M.st.pins:=by
   split at hp
   ·cases hp
   ·exact List.mem_of_getElem? hp
  have hpi:=hm.st.inv.pin p hpm
  have hpu:=hm.st.su.pin p hpm
  split
  ·exact iw.of (h.write (qx 6 0 p hpu (by omega))) rfl rfl
  ·exact iw.of (h.write (qx 7 x.n ⟨0,0,0⟩ (by decide) (by decide))) rfl rfl
theorem iw.kH(h:iw M)(hm:bD M k)(cl:Int)(x:bF)(ha:0<=x.at'/\x.at'<=aT):iw (kH M cl x):=by
 have h1:iw (ig M cl x):=by
  unfold ig
  split
  ·exact(h.fB hm x ha).write (J3 _)
  ·exact h
 unfold dH.kH
 split
 ·exact h
 ·exact h1.send _ _
theorem iw.dA(h:iw M)(hm:bD M k)(i:Int)(x:bF)(ha:0<=x.at'/\x.at'<=aT):iw (dA M i x):=by
 unfold dH.dA
 split
 ·split
  ·exact h.kY _ _ (by omega)
  ·exact h
 split
 ·split
  ·exact h.send _ _
  ·exact h
 split
 ·split
  ·exact h.kH hm _ _ ha
  ·exact h
 ·exact h
theorem iw.deliver{w:World}(h:iw M)(hm:bD M k)(i:Int)(x:bF)(hx:I64 x.aU)(hok:iZ w x)(ha:0<=x.at'/\x.at'<=aT):iw (fC M i x):=by
 unfold fC
 split
 ·exact(h.dA hm i x ha).done (hm.dA i x hx hok).st
 ·exact h
theorem ZS(M:MR)(n:Nat):(jq M n).lg=M.lg:=(wC M n).2.2.1
theorem iw.iy(h:iw M)(hm:bD M k):iw (iy M):=by
 unfold dH.iy
 split
 ·exact h
 split
 ·exact h
 ·exact iw.of (h.write (J5 (Hl hm))) (by rw[ZS];rfl) (by rw[zQ];rfl)
theorem iw.FD(h:iw M)(hm:bD M k):iw (fJ M):=by
 unfold dH.fJ
 split
 ·split
  ·exact h.write (PL (EW hm))
  ·exact h
 ·exact h
theorem iw.jG(h:iw M)(l:List Int):iw (jG M l):=by
 induction l generalizing M with
 |nil=>exact h
 |cons a l ih=>exact ih (h.write (qx _ _ _ (by decide) (by decide)))
theorem iw.gJ(h:iw M)(l:List Mem):iw (gJ M l):=by
 induction l generalizing M with
 |nil=>exact h
 |cons a l ih=>exact ih (h.send _ _)
theorem iw.tick(h:iw M)(hm:bD M k):iw (oD M):=by
 have h1:iw (mg M):=iw.jG (M:=nI M) (h.of rfl rfl) _
 have h2:iw (bK M):=h1.of rfl rfl
 exact(((h2.iy hm.bK).FD hm.bK.iy).gJ _).done hm.sV.st
theorem iw.act{w:World}(h:iw M)(hm:bD M k)(a:jX)(hi:I64 a.x.aU)(hok:iZ w a.x)(ha:0<=a.x.at'/\a.x.at'<=aT):iw (oJ M a):=by
 unfold oJ
 split
 ·exact h.deliver hm a.n a.x hi hok ha
 split
 ·exact h.tick hm
 split
 ·refine h.of ?_ ?_<;>(unfold oP;split<;>rfl)
 split
 ·refine h.of ?_ ?_<;>(unfold mJ;split<;>rfl)
 ·exact h
theorem iw.new{ep fl:Int}{l:List Mem}(hf:0<=fl/\fl<=aT):iw (tH ep l fl):=
 iw.done (iw.write (M:=mk0 nG) ⟨[],⟨rfl,fun x hx=>by cases hx⟩,rfl⟩ (vU hf)) (Zq.write (vU hf)).st
theorem Ql(M:MR):(l7 M).lg.T=[]:=by unfold l7;dsimp only;split<;>rfl
theorem afT(M:MR)(a:jX)(h:M.lg.T=[]):(oJ M a).lg.T=[]:=by
 unfold oJ
 split
 ·unfold fC
  split
  ·exact Ql _
  ·exact h
 split
 ·exact Ql _
 split
 ·unfold oP;split<;>exact h
 split
 ·unfold mJ;split<;>exact h
 ·exact h
def kp(l:List aY):List (Int×Int):=l.map fun p=>(p.id,p.at')
def gQ(M:MR):Prop:=kp M.pins=kp M.st.pins
theorem Qm:∀(l:List aY) (id:Int) (i:Nat),gV (fun x:aY=>decide (x.id=id)) l i=gV (fun x:Int×Int=>decide (x.1=id)) (kp l) i
 |[],_,_=>rfl
 |p::l,id,i=>by
  show _=gV _ ((p.id,p.at')::kp l) i
  unfold gV
  rw[Qm l id (i+1)]
theorem Jz{a b:List aY}(h:kp a=kp b):a.length=b.length:=by
 have:=congrArg List.length h
 simpa [kp]using this
theorem ac6{a b:List aY}(h:kp a=kp b)(id:Int):dJ a id=dJ b id:=by
 unfold dJ
 rw[Qm,Qm,h]
theorem TF{M M':MR}(h:gQ M)(h1:M'.pins=M.pins)(h2:M'.st.pins=M.st.pins):gQ M':=by unfold gQ;rw[h1,h2];exact h
theorem VP(s:bQ)(x:aG)(h6:x.k≠6)(h7:x.k≠7):(aZ s x).pins=s.pins:=by
 unfold aZ
 split
 ·rfl
 split
 ·rfl
 split
 ·rfl
 have e:∀a:jK,(kF s a).pins=s.pins:=fun a=>by
  unfold kF
  split
  ·rfl
  split<;>rfl
 split
 ·rfl
 exact e x.said
theorem gQ.write(h:gQ M){x:aG}(h6:x.k≠6)(h7:x.k≠7):gQ (writeM M x):=
 TF h (sJ M x) (by rw[ni,VP _ _ h6 h7])
theorem gQ.send(h:gQ M)(tt:Int)(x:bF):gQ (iU M tt x):=by
 unfold iU
 split
 ·exact h
 ·exact h
theorem E7(a b:List aY):kp (a++b)=kp a++kp b:=List.map_append
theorem JA{l:List aY}{id:Int}(h0:0<=dJ l id):kp (jB l id)=kp l:=by
 rcases oH l id with h1|⟨q,y,h2,h3,h4⟩
 ·omega
 unfold jB
 rw[show(dJ l id).toNat=q by omega,h3]
 show kp (l.set q ⟨id,y.at',8⟩)=kp l
 unfold kp
 rw[List.map_set]
 refine List.ext_getElem? (fun j=> ?_)
 rw[List.getElem?_set]
 obtain⟨hi,he⟩:=List.getElem?_eq_some_iff.1 h3
 split
 ·rename_i hj
  subst hj
  rw[if_pos (by simpa using hi),List.getElem?_map,h3,<-h4];rfl
 ·rfl
theorem acz{a b:List aY}(h:kp a=kp b)(id:Int):kp (freed a id)=kp (freed b id):=by
 unfold freed
 rw[ac6 h id]
 split
 ·exact h
 ·unfold kp at*
  rw[List.eraseIdx_eq_take_drop_succ,List.eraseIdx_eq_take_drop_succ,List.map_append,List.map_append,List.map_take,List.map_drop,List.map_take,List.map_drop,h]
theorem Qn{f:aY->Bool}{s:aY}{r:List aY}(hs:f s=true):∀(d:List aY) (i:Nat),(∀q∈d,f q=false)->gV f (d++s::r) i=((i+d.length:Nat):Int)
 |[],i,_=>by
  show gV f (s::r) i=_
  unfold gV
  rw[hs]
  rfl
 |q::d,i,h=>by
  show gV f (q::(d++s::r)) i=_
  unfold gV
  rw[h q List.mem_cons_self,Qn hs d (i+1) (fun y hy=>h y (List.mem_cons_of_mem _ hy)),List.length_cons]
  show((i+1+d.length:Nat):Int)=_
  omega
theorem ZT{d:List aY}{s:aY}{r:List aY}(h:∀q∈d,q.id≠s.id):freed (d++s::r) s.id=d++r:=by
 have e:dJ (d++s::r) s.id=((d.length:Nat):Int):=by
  unfold dJ
  rw[Qn (decide_eq_true rfl) d 0 (fun q hq=>decide_eq_false (h q hq)),Nat.zero_add]
 unfold freed
 rw[if_neg (by omega),e,Int.toNat_natCast,List.eraseIdx_append_of_length_le (Nat.le_refl _),Nat.sub_self]
 rfl
theorem Gs{s:bQ}{n:Int}(h:0<=n/\n<=1073741824):(aZ s (gG n)).pins=freed s.pins n:=by
 have hk:(gG n).k=7:=rfl
 have hne:aQ (gG n)=0:=by
  unfold aQ
  rw[if_neg (by omega),if_neg (by omega),if_pos (by omega)]
  exact Mst.U0 (x:=n) h
 have hE:bu s (gG n)=0:=by
  unfold bu
  rw[if_neg (by rw[hne];decide),if_neg (by omega),if_neg (by omega),if_neg (by omega),if_neg (by omega),if_pos hk]
 unfold aZ
 rw[if_neg (by rw[hE];decide),if_neg (by omega),if_neg (by omega),if_neg (by omega),if_neg (by omega),if_pos hk]
 rfl
theorem E8:∀(P:List aY) (M:MR) (d S:List aY),M.st.pins=d++S->kp P=kp S->(d++S).Pairwise (fun a b=>a.id<b.id)->(∀q∈S,0<=q.id/\q.id<=1073741824)->kp (jG M (dM.iG P)).st.pins=kp d++kp (dM.fK P)
 |[],M,d,S,h1,h2,_,_=>by
  have:S=[]:=List.eq_nil_of_length_eq_zero (by have:=Jz h2;simpa using this.symm)
  subst this
  show kp M.st.pins=kp d++[]
  rw[h1,List.append_nil,List.append_nil]
 |p::P,M,d,[],h1,h2,_,_=>by have:=Jz h2;simp at this
 |p::P,M,d,s::S,h1,h2,h3,h4=>by
  have h5:p.id=s.id/\p.at'=s.at'/\kp P=kp S:=by
   unfold kp at h2⊢
   simp only[List.map_cons,List.cons.injEq,Prod.mk.injEq]at h2
   exact⟨h2.1.1,h2.1.2,h2.2⟩
  have h4':∀q∈S,0<=q.id/\q.id<=1073741824:=fun q hq=>h4 q (List.mem_cons_of_mem _ hq)
  by_cases hl:1<p.left
  ·have e1:dM.iG (p::P)=dM.iG P:=by
    unfold dM.iG
    rw[List.filter_cons,if_neg (by rw[decide_eq_true hl];decide)]
   have e2:dM.fK (p::P)=⟨p.id,p.at',p.left-1⟩::dM.fK P:=by
    unfold dM.fK
    rw[List.filter_cons,if_pos (decide_eq_true hl)]
    rfl
   have ih:=E8 P M (d++[s]) S (by rw[h1];simp) h5.2.2 (by simpa using h3) h4'
   rw[e1,e2,ih,E7,List.append_assoc]
   show kp d++([(s.id,s.at')]++kp (dM.fK P))=kp d++((p.id,p.at')::kp (dM.fK P))
   rw[h5.1,h5.2.1];rfl
  ·have e1:dM.iG (p::P)=p.id::dM.iG P:=by
    unfold dM.iG
    rw[List.filter_cons,if_pos (by rw[decide_eq_false hl];rfl)]
    rfl
   have e2:dM.fK (p::P)=dM.fK P:=by
    unfold dM.fK
    rw[List.filter_cons,if_neg (by simpa using hl)]
   have hno:∀q∈d,q.id≠s.id:=fun q hq=>by
    have:=(List.pairwise_append.1 h3).2.2 q hq s List.mem_cons_self
    omega
   have e3:(writeM M (gG p.id)).st.pins=d++S:=by
    rw[ni,Gs (by rw[h5.1];exact h4 s List.mem_cons_self),h1,h5.1,ZT hno]
   have h3':(d++S).Pairwise (fun a b=>a.id<b.id):=h3.sublist (List.Sublist.append (List.Sublist.refl d) (List.sublist_cons_self s S))
   have ih:=E8 P (writeM M (gG p.id)) d S e3 h5.2.2 h3' h4'
   rw[e1,e2]
   exact ih
theorem RP(M:MR)(l:List Int):(jG M l).pins=M.pins:=by
 induction l generalizing M with
 |nil=>rfl
 |cons a l ih=>exact(ih (writeM M (gG a))).trans (sJ _ _)
theorem gQ.mg(h:gQ M)(hm:bD M k):gQ (mg M):=by
 have hi:=hm.st.inv
 have h1:=E8 M.pins (nI M) [] M.st.pins rfl h hi.xg (fun q hq=>by have:=hi.pin q hq;have:=hi.top;omega)
 show kp (jG (nI M) (dM.iG M.pins)).pins=kp (jG (nI M) (dM.iG M.pins)).st.pins
 rw[h1,RP]
 rfl
theorem gQ.iy(h:gQ M):gQ (iy M):=by
 unfold dH.iy
 split
 ·exact h
 split
 ·exact h
 ·have h1:gQ (writeM M (kJ (dQ M))):=h.write (by unfold kJ kX uS;dsimp only;omega) (by unfold kJ kX uS;dsimp only;omega)
  exact TF h1 (by rw[(wC _ _).2.1];rfl) (by rw[zQ];rfl)
theorem gQ.FD(h:gQ M):gQ (fJ M):=by
 unfold dH.fJ
 split
 ·split
  ·exact h.write (by unfold dV;dsimp only;omega) (by unfold dV;dsimp only;omega)
  ·exact h
 ·exact h
theorem gQ.gJ(h:gQ M)(l:List Mem):gQ (gJ M l):=by
 induction l generalizing M with
 |nil=>exact h
 |cons a l ih=>exact ih (h.send _ _)
theorem gQ.tick(h:gQ M)(hm:bD M k):gQ (oD M):=by
 have h2:gQ (bK M):=h.mg hm
 have h3:gQ (sV M):=((h2.iy).FD).gJ _
 exact h3
theorem afU{a b:List aY}(h:kp a=kp b){p:aY}(hp:p∈a):∃q∈b,q.id=p.id/\q.at'=p.at':=by
 have h1:(p.id,p.at')∈kp b:=by rw[<-h];exact List.mem_map.2 ⟨p,hp,rfl⟩
 obtain⟨q,hq,e⟩:=List.mem_map.1 h1
 injection e with e1 e2
 exact⟨q,hq,e1,e2⟩
theorem gQ.mW(h:gQ M)(hm:bD M k)(at':Int):gQ (mW M at'):=by
 unfold dH.mW
 split
 ·exact h
 split
 ·exact h
 rename_i hE
 have hE:bu M.st (iP ⟨M.st.top+1,at',8⟩)=0:=Classical.not_not.1 hE
 have hi:=hm.st.inv
 have hk:(iP ⟨M.st.top+1,at',8⟩).k=6:=rfl
 have hr:=LK (mZ hE) hk
 have hr:0<=M.st.top+1/\M.st.top+1<=1073741824:=hr
 have hno:dJ M.st.pins (M.st.top+1)<0:=Mst.GY (fun p hp e=>by have:=hi.pin p hp;omega)
 have hpe:pJ M.st ⟨M.st.top+1,at',8⟩=0:=by
  have h9:=hE
  unfold bu at h9
  rw[if_neg (by rw[mZ hE];decide),if_neg (by omega),if_neg (by omega),if_neg (by omega),if_pos hk]at h9
  exact h9
 have hlen:M.st.pins.length<3:=by
  unfold pJ at hpe
  rw[if_neg (by show¬0<=dJ M.st.pins (M.st.top+1);omega)]at hpe
  split at hpe
  ·cases hpe
  ·omega
 have hS:(aZ M.st (iP ⟨M.st.top+1,at',8⟩)).pins=M.st.pins++[⟨M.st.top+1,at',8⟩]:=by
  unfold aZ
  rw[if_neg (by rw[hE];decide),if_neg (by omega),if_neg (by omega),if_neg (by omega),if_pos hk]
  show(jW M.st ⟨M.st.top+1,at',8⟩).pins=_
  unfold jW
  rw[if_neg (by show¬0<=dJ M.st.pins (M.st.top+1);omega)]
 have hg:granted M.pins (M.st.top+1) at'=M.pins++[⟨M.st.top+1,at',8⟩]:=by
  have h0:dM.jS M.pins (M.st.top+1)=0:=by
   unfold dM.jS
   have:=Jz h
   have:=hi.top
   rw[if_neg (by omega),if_neg (by omega),if_neg]
   rintro⟨a,b⟩
   have hne:M.pins≠[]:=fun e=>by rw[e]at a;exact absurd a (Nat.lt_irrefl _)
   have hl:dM.gu M.pins=(M.pins.getLast hne).id:=dM.last_at (by rw[<-List.getLast?_eq_getElem?,List.getLast?_eq_some_getLast hne])
   obtain⟨q,hq,e1,-⟩:=afU h (List.getLast_mem hne)
   have:=hi.pin q hq
   omega
  unfold granted
  rw[if_pos h0]
 show kp (granted M.pins (M.st.top+1) at')=kp (writeM M (iP ⟨M.st.top+1,at',8⟩)).st.pins
 rw[ni,hS,hg,E7,E7,h]
theorem gQ.fB(h:gQ M)(hm:bD M k)(x:bF):gQ (fB M x):=by
 unfold dH.fB
 split
 ·exact h.mW hm _
 split
 ·exact h
 ·rename_i p hp
  obtain⟨h0,hpp⟩:0<=dJ M.st.pins x.n/\M.st.pins[(dJ M.st.pins x.n).toNat]? =some p:=by
   split at hp
   ·cases hp
   ·exact⟨by omega,hp⟩
  have hpi:=hm.st.inv.pin p (List.mem_of_getElem? hpp)
  have htop:=hm.st.inv.top
  have hid:p.id=x.n:=by
   rcases oH M.st.pins x.n with h1|⟨q,y,h2,h3,h4⟩
   ·omega
   ·rw[show(dJ M.st.pins x.n).toNat=q by omega,h3]at hpp
    injection hpp with e
    rw[<-e];exact h4
  have hM:=ac6 h x.n
  split
  ·have hk:(iP p).k=6:=rfl
   have hS:kp (aZ M.st (iP p)).pins=kp M.st.pins:=by
    unfold aZ
    split
    ·rfl
    rw[if_neg (by omega),if_neg (by omega),if_neg (by omega)]
    show kp (jW M.st p).pins=_
    unfold jW
    rw[if_pos (by rw[hid];exact h0)]
    exact JA (by rw[hid];exact h0)
   show kp (mM M.pins x.n)=kp (writeM M (iP p)).st.pins
   rw[ni,hS]
   unfold mM
   rw[if_neg (by omega),JA (by omega)]
   exact h
  ·show kp (oU M.pins x.n)=kp (writeM M (gG x.n)).st.pins
   rw[ni,Gs (by omega)]
   unfold oU
   rw[if_neg (by omega)]
   exact acz h x.n
theorem gQ.kH(h:gQ M)(hm:bD M k)(cl:Int)(x:bF):gQ (kH M cl x):=by
 have h1:gQ (ig M cl x):=by
  unfold ig
  split
  ·exact(h.fB hm x).write (by unfold oV;dsimp only;omega) (by unfold oV;dsimp only;omega)
  ·exact h
 unfold dH.kH
 split
 ·exact h
 ·exact h1.send _ _
theorem gQ.kY(h:gQ M)(id:Int)(x:bF):gQ (kY M id x):=by
 have h1:gQ (iM M id x):=by
  unfold iM
  split
  ·split
   ·exact h
   split
   ·exact gQ.write (M:=jV M id x) h (by unfold qY nt;dsimp only;omega) (by unfold qY nt;dsimp only;omega)
   ·exact h
  split
  ·exact h
  ·exact h
 unfold dH.kY
 split
 ·exact h1.send _ _
 ·exact h1
theorem gQ.dA(h:gQ M)(hm:bD M k)(i:Int)(x:bF):gQ (dA M i x):=by
 unfold dH.dA
 split
 ·split
  ·exact h.kY _ _
  ·exact h
 split
 ·split
  ·exact h.send _ _
  ·exact h
 split
 ·split
  ·exact h.kH hm _ _
  ·exact h
 ·exact h
theorem gQ.act(h:gQ M)(hm:bD M k)(a:jX):gQ (oJ M a):=by
 unfold oJ
 split
 ·unfold fC
  split
  ·have h1:=h.dA hm a.n a.x
   exact h1
  ·exact h
 split
 ·exact h.tick hm
 split
 ·refine TF h ?_ ?_<;>(unfold oP;split<;>rfl)
 split
 ·refine TF h ?_ ?_<;>(unfold mJ;split<;>rfl)
 ·exact h
theorem gQ.new{ep fl:Int}{l:List Mem}(h:aO.chk ep l=0):gQ (tH ep l fl):=by
 unfold gQ
 rw[J6 h]
 show kp (writeM (mk0 nG) (kX ep l fl (ids l))).pins=_
 rw[sJ]
 rfl
end
end dH
end Go.Proofs.YtfjdpbbgfjhnlaaGreat

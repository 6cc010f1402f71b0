/- Part 40 of what the proof needs. -/
import Derived.Test.YtolkgbafebehfaaGreatZP38
set_option linter.unusedSimpArgs false
set_option linter.unusedVariables false
set_option maxHeartbeats 32000000
set_option maxRecDepth 100000
namespace Go.Proofs.YtolkgbafebehfaaGreat
open Go.RowKit
set_option maxRecDepth 100000
namespace dM
open aP Vn Mst lJ IM nG gX
def mk0(L:nS):MR:=⟨L,st0,[],[0,0,0,0],0,fun _=>none,fun _=>none,0,fun _=>false,fun _=>false,fun _=>false,[],0⟩
section
variable{w w':World}{X X0:MX}{M M0:MR}{c:Nat}
def Xq(w:World)(X0:MX)(L:nS)(e:Ending)(w':World):Prop:=
 ∃X,e=.returned (.pointer (some ⟨X.mb,0,none⟩))/\dG w' X (mk0 L)/\(∀k,dU X (mk0 L) k->Pt.PF X0.gp X0.gw X0.F X0.A L.l.length X0.c k\/w.heap.size<=k)/\Kept aj w w'/\X.g=X0.g/\X.n=X0.n/\X.ps=X0.ps/\X.aV=X0.aV/\X.aO=X0.aO/\X.gp=X0.gp
theorem Xr(X0:MX)(L:nS)(hp:rO w X0 L):Calls Tryz.prog 43 #[.pointer (some ⟨X0.g,0,none⟩),.pointer (some ⟨X0.gp,0,none⟩)] w (Xq w X0 L):=by
 have hlt:∀k,Pt.PF X0.gp X0.gw X0.F X0.A L.l.length X0.c k->k<w.heap.size:=fun k hk=>by
  rcases hk with hk|hk|hk|hk
  ·exact hp.d.lt k hk
  ·rw[hk];exact Has.lt hp.p
  ·rw[hk];exact Has.lt hp.wl
  ·exact ou hp.row.1 hk
 have HP:=ah hp;have wZ:=ah hlt;clear hp hlt
 have hmk:= @run_makeMap Tryz.prog
 go_enter Tryz.func43,Tryz.ntmps43
 go_wp2_with fail
 refine(bP w).mono ?_
 rintro e w1 ⟨rfl,hst,hk1⟩
 have HST:=ah hst;have gI:=ah hk1;clear hst hk1
 go_wp2_with fail
 refine(yN w1).mono ?_
 rintro e w2 ⟨rfl,hwt,hk2⟩
 have YN:=ah hwt;have aQ:=ah hk2;clear hwt hk2
 go_wp2
 go_ret
 have l1:w.heap.size<w1.heap.size:=HST.out.lt _ rfl
 have l2:w1.heap.size<w2.heap.size:=Has.lt YN.out
 have hk2:Kept aj w w2:=gI.out.then aQ.out
 refine⟨⟨w2.heap.size+5,X0.gp,X0.gw,X0.g,w.heap.size,w1.heap.size,w2.heap.size,w2.heap.size+1,w2.heap.size+2,w2.heap.size+3,w2.heap.size+4,X0.F,fun k=>k=w.heap.size,none,0,none,0,X0.A,X0.c,X0.n,X0.m,X0.ps,X0.aV,X0.aO⟩,?_,⟨fun i=> ?_,fun i j k hi hj=> ?_⟩,fun k hk=> ?_,by(repeat'(first|(with_reducible first|exact ak|apply au|apply ay|apply aA|apply aB)|(exact hk2)|(right;simp;done))),rfl,rfl,rfl,rfl,rfl,rfl⟩
 ·first|rfl|(simp;done)
 ·have hmp:∀(o:Nat),o<5->True:=fun _ _=>trivial
  rcases i with _|_|_|_|_|_|_|_|_|_|_|i
  ·exact Has.bP _ _ _ (by simp)
  ·exact rO.YD (G:=aj) HP.out (by(repeat'(first|(with_reducible first|exact ak|apply au|apply ay|apply aA|apply aB)|(exact hk2)|(right;simp;done)))) (fun _ _ z=>z)
  ·exact dS.still HST.out (aQ.out.then (by(repeat'(first|(with_reducible first|exact ak|apply au|apply ay|apply aA|apply aB)|(right;simp;done)))))
  ·exact⟨rfl,.inl ⟨rfl,rfl⟩⟩
  ·exact Has.kept (F:=aj) YN.out (by(repeat'(first|(with_reducible first|exact ak|apply au|apply ay|apply aA|apply aB)|(right;simp;done)))) (fun z=>z)
  ·exact dX.kept (F:=aj) (dX.made .u64 23 w2) (by(repeat'(first|(with_reducible first|exact ak|apply au|apply ay|apply aA|apply aB)|(right;simp;done)))) (fun z=>z)
  ·exact dX.kept (F:=aj) (by have h:=dX.made .i64 3 (w2.alloc (.map #[] 0));simp only[size_alloc]at h;exact h) (by(repeat'(first|(with_reducible first|exact ak|apply au|apply ay|apply aA|apply aB)|(right;simp;done)))) (fun z=>z)
  ·exact bJ.kept (F:=aj) (by have h:=bJ.made ((w2.alloc (.map #[] 0)).alloc (.map #[] 0));simp only[size_alloc]at h;exact h) (by(repeat'(first|(with_reducible first|exact ak|apply au|apply ay|apply aA|apply aB)|(right;simp;done)))) (fun z=>z)
  ·exact bJ.kept (F:=aj) (by have h:=bJ.made (((w2.alloc (.map #[] 0)).alloc (.map #[] 0)).alloc (.map #[] 0));simp only[size_alloc]at h;exact h) (by(repeat'(first|(with_reducible first|exact ak|apply au|apply ay|apply aA|apply aB)|(right;simp;done)))) (fun z=>z)
  ·exact bJ.kept (F:=aj) (by have h:=bJ.made ((((w2.alloc (.map #[] 0)).alloc (.map #[] 0)).alloc (.map #[] 0)).alloc (.map #[] 0));simp only[size_alloc]at h;exact h) (by(repeat'(first|(with_reducible first|exact ak|apply au|apply ay|apply aA|apply aB)|(right;simp;done)))) (fun z=>z)
  ·exact⟨rfl,.inl ⟨rfl,rfl⟩⟩
  ·trivial
 ·have h1:∀k,Pt.PF X0.gp X0.gw X0.F X0.A L.l.length X0.c k->k<w.heap.size:=wZ.out
  rcases i with _|_|_|_|_|_|_|_|_|_|_|i<;>rcases j with _|_|_|_|_|_|_|_|_|_|_|j<;>first
   |rfl
   |exact hi.elim
   |exact hj.elim
   |(simp[parts,mk0,Value.ownBlock]at hi;done)
   |(simp[parts,mk0,Value.ownBlock]at hj;done)
   |(have h2:=h1 k hj;simp only[parts]at hi;omega)
   |(have h2:=h1 k hi;simp only[parts]at hj;omega)
   |(simp only[parts]at hi hj;omega)
 ·obtain⟨i,hi⟩:=hk
  rcases i with _|_|_|_|_|_|_|_|_|_|_|i<;>first
   |exact .inl hi
   |exact hi.elim
   |(simp[parts,mk0,Value.ownBlock]at hi;done)
   |(simp only[parts]at hi;right;omega)
end
end dM
namespace dM
open aP Vn Mst lJ IM nG gX eF
theorem mem_set{α:Type}{l:List α}{i:Nat}{a b:α}(h:b∈l.set i a):b∈l\/b=a:=by
 rcases List.mem_or_eq_of_mem_set h with h|h
 ·exact .inl h
 ·exact .inr h
theorem C4{l:List aZ}{id:Int}{p:aZ}(h:p∈jG l id):p∈l\/∃q∈l,p=⟨id,q.at',8⟩:=by
 unfold jG at h
 split at h
 ·rename_i q hq
  rcases mem_set h with h|h
  ·exact .inl h
  ·exact .inr ⟨q,List.mem_of_getElem? hq,h⟩
 ·exact .inl h
theorem SU.apply{s:bV}{x:aN}(h:SU s)(hu:NU x):SU (bG s x):=by
 unfold bG
 split
 ·exact h
 split
 ·exact⟨h.hz,hu.2.2.1,h.pin⟩
 split
 ·exact⟨h.hz,h.fl,h.pin⟩
 split
 ·exact⟨hu.1,h.fl,h.pin⟩
 split
 ·unfold kW
  split
  ·refine⟨h.hz,h.fl,fun p hp=> ?_⟩
   rcases C4 hp with hp|⟨q,hq,rfl⟩
   ·exact h.pin p hp
   ·exact h.pin q hq
  ·refine⟨h.hz,h.fl,fun p hp=> ?_⟩
   rcases List.mem_append.1 hp with hp|hp
   ·exact h.pin p hp
   ·rw[List.mem_singleton.1 hp];exact hu.2.1
 split
 ·exact⟨h.hz,h.fl,fun p hp=>h.pin p ((GY s.pins x.n).subset hp)⟩
 ·unfold pz
  split
  ·exact⟨h.hz,h.fl,h.pin⟩
  split
  ·exact⟨h.hz,h.fl,h.pin⟩
  ·exact⟨h.hz,h.fl,h.pin⟩
structure uT(s:bV):Prop where
 inv:Mst.Inv s
 su:SU s
theorem KA:uT st0:=⟨inv0,⟨by decide,by decide,fun p hp=>by cases hp⟩⟩
theorem uT.apply{s:bV}{x:aN}(h:uT s)(hu:NU x):uT (bG s x):=⟨(h.inv.apply ⟨hu.1.1,hu.2.1.1,hu.2.2.1.1⟩).1,h.su.apply hu⟩
theorem uT.write{M:MR}{x:aN}(h:uT M.st)(hu:NU x):uT (writeM M x).st:=by
 unfold writeM
 split
 ·exact h.apply hu
 ·exact h
def mF:nS:=⟨1,Wl.cur [] (Pt.lu 0 []),[],[]⟩
def vI(ep:Int)(ms:List Mem)(fl:Int)(lg:List Int)(A:Option Addr)(c:Nat)(B:Option Addr)(d:Nat):aN:=⟨1,0,0,ep,A,c,ms,fl,B,d,lg,none,0,⟨0,0,[]⟩,0,⟨0,0,0⟩,⟨0,0,0,0⟩⟩
def lG(ep:Int)(ms:List Mem)(fl:Int)(lg:List Int):aN:=vI ep ms fl lg none 0 none 0
def wO(ep:Int)(l:List Mem)(fl:Int):MR:=mX (writeM (mk0 mF) (lG ep l fl (ids l)))
theorem KC{w:World}{ep fl:Int}{ms:List Mem}{lg:List Int}{A B:Option Addr}{c d:Nat}(h1:Src w 2 A ms.length (aS ms))(h2:ms.length<=c)(h3:ms.length<=1000)(h4:Src w 1 B lg.length (ints lg))(h5:lg.length<=d)(h6:lg.length<=1000):gU w (vI ep ms fl lg A c B d):=
 ⟨h1,h2,h3,h4,h5,h6,Src.nil _ _ _⟩
theorem yH{ep fl:Int}{ms:List Mem}{lg:List Int}{A B:Option Addr}{c d:Nat}(h:0<=fl/\fl<=aT):NU (vI ep ms fl lg A c B d):=by
 have z:(0:Int)<=0/\(0:Int)<=aT:=by decide
 exact⟨z,z,h,z⟩
section
variable{w w':World}{X X0:MX}{M M0:MR}{c:Nat}
def DN(w:World)(F:Nat->Prop)(g:Nat)(ep:Int)(l:List Mem)(fl:Int)(e:Ending)(w':World):Prop:=
 ∃X,e=.returned (.tuple #[.pointer (some ⟨X.mb,0,none⟩),.int .i64 0])/\dG w' X (wO ep l fl)/\cZ X (wO ep l fl).lg 2/\X.g=g/\(∀k,dU X (wO ep l fl) k->F k\/w.heap.size<=k)/\Kept F w w'
theorem Xt(w:World)(g:Nat)(F:Nat->Prop)(aV aO ep fl:Int)(A:Option Addr)(c:Nat)(l:List Mem)(hd:aJ.aX w g F 0 (fun _=>none) [] aV aO)(hl:Src w 2 A l.length (aS l))(hoff:0<l.length->∀ad,A=some ad->¬F ad.block)(hlc:l.length<=c)(hlen:l.length<=1000)(hfl:0<=fl/\fl<=aT)(h0:aP.chk ep l=0):
  Calls Tryz.prog 10 #[.pointer (some ⟨g,0,none⟩),mP ep A l.length c fl] w (DN w F g ep l fl):=by
 have dL:=fun W (hW:Kept aj w W)=>Mst.rD W ep fl A c l (hl.kept hW (fun _ _ z=>z)) hlc (by omega)
 rw[h0]at dL
 have JE:=hd.lt
 obtain⟨W0,hW0⟩:∃W0,w.alloc (.cells #[.int .i64 ep,.slice A l.length c,.int .u64 fl] 25)=W0:=⟨_,rfl⟩
 have hk0:Kept aj w W0:=by rw[<-hW0];(repeat'(first|(with_reducible first|exact ak|apply au|apply ay|apply aA|apply aB)|(right;simp;done)))
 have hn0:Has W0 w.heap.size 25 #[.int .i64 ep,.slice A l.length c,.int .u64 fl]:=by rw[<-hW0];exact Has.new _ _ _
 have b0:W0.cell? ⟨w.heap.size,0,none⟩=some (.int .i64 ep):=hn0.cell 0
 have b1:W0.cell? ⟨w.heap.size,1,none⟩=some (.slice A l.length c):=hn0.cell 1
 have b2:W0.cell? ⟨w.heap.size,2,none⟩=some (.int .u64 fl):=hn0.cell 2
 have HC:=ah dL;have HD:=ah hd;have HL:=ah hl;have qo:=ah hoff;have HLC:=ah hlc;have jW:=ah hlen;have qB:=ah hfl;have JJ:=ah JE;have aW:=ah hk0;have dw:=ah hn0
 clear dL hd hl hoff hlc hlen hfl h0 JE hk0 hn0
 go_enter Tryz.func10,Tryz.ntmps10
 go_wp2_with fail
 clear hW0 b0 b1 b2
 refine(HC.out _ aW.out).mono ?_
 rintro e w2 ⟨rfl,hk⟩
 have dA:=ah (dw.out.kept hk (fun z=>z));have aQ:=ah (aW.out.then hk);clear hk
 go_wp2_with fail
 refine(Pt.WY (HD.out.kept aQ.out (fun _ _ z=>z)) (by omega)).mono ?_
 rintro e w3 ⟨gp,gw,F',m',A',c',rfl,hpt,hgp,hgw,hF',hk3⟩
 have hx0:rO w3 ⟨0,gp,gw,g,0,0,0,0,0,0,0,F',fun _=>False,none,0,none,0,A',c',0+1,m',[],aV,aO⟩ mF:=⟨hpt.d,hpt.p,hpt.wl,⟨hpt.row.1,fun _ _=>Nat.zero_le _⟩,hpt.log,hpt.low,hpt.f1,hpt.tx,hpt.hs⟩
 have hpf:∀k,Pt.PF gp gw F' A' 0 c' k->F k\/w2.heap.size<=k:=fun k hk=>by
  rcases hk with hk|hk|hk|hk
  ·exact hF' k hk
  ·exact .inr (by omega)
  ·exact .inr (by omega)
  ·exact .inr (hpt.row.2 k hk)
 have abd:=hk3.size
 have abe:Kept F w w3:=(Kept.up aQ.out).then hk3
 have hn3:=dA.out.kept hk3 (fun hf=>Nat.lt_irrefl _ (JJ.out _ hf))
 have acQ:=ah abd;have HX0:=ah hx0;have HPF:=ah hpf;have bf:=ah abe;have kY:=ah hn3
 clear abd hx0 hpf abe hn3 hpt hgp hgw hF' hk3
 go_wp2_with fail
 refine(Xr _ mF HX0.out).mono ?_
 rintro e w4 ⟨X,rfl,hm,hft,hk4,hXg,hXn,Xu,-,-,-⟩
 dsimp only at hXg hXn Xu
 have hb:cZ X (mk0 mF).lg 0:=⟨by rw[hXn,Xu];decide,by show(1:Int)+((Wl.cur [] (Pt.lu 0 [])).length+0:Nat)<=2;decide,Nat.zero_le _,Pt.TJ _ _⟩
 have hn4:=kY.out.kept hk4 (fun z=>z)
 have KD:∀k,dU X (mk0 mF) k->F k\/w2.heap.size<=k:=fun k hk=>by
  rcases hft k hk with y|y
  ·exact HPF.out k y
  ·have h2:=acQ.out;exact .inr (by omega)
 have h02:=aQ.out.size
 have P4:∀k,dU X (mk0 mF) k->F k\/w.heap.size<=k:=fun k hk=>by
  rcases KD k hk with y|y
  ·exact .inl y
  ·exact .inr (by omega)
 have hfk:Kept F w w4:=bf.out.then (Kept.up hk4)
 have hwr:∀(W:World) (B:Option Addr) (d:Nat),Kept aj w4 W->aF 3 1 w4.heap.size W B l.length d (ints (ids l))->Calls Tryz.prog 44 #[.pointer (some ⟨X.mb,0,none⟩),.agg (aH (vI ep l fl (ids l) A c B d)).toArray] W fun e w'=>
   (∃k:Int,e=.returned (.int .i64 k))/\∃X',Step w4 X (mk0 mF) w' X' (writeM (mk0 mF) (lG ep l fl (ids l)))/\cZ X' (writeM (mk0 mF) (lG ep l fl (ids l))).lg 1:=fun W B d hW hr=>by
  have hil:=E9 l
  have hr':W.ownsRow 0 3 1 (.slice B (ids l).length d) (ids l).length (ints (ids l)):=by rw[hil];exact hr.1
  have hx:gU W (vI ep l fl (ids l) A c B d):=KC ((Src.sV HL.out hfk qo.out).kept hW (fun _ _ z=>z)) HLC.out jW.out (Src.bC hr') (jk hr').1 (by rw[hil];exact jW.out)
  refine(write_any (hm.quiet hW) hb (by omega) KA.inv.ok _ hx (yH qB.out) ⟨fun h0 ad e hf=> ?_,fun h0 ad e hf=> ?_,fun h0=>absurd h0 (Nat.lt_irrefl 0)⟩).mono ?_
  ·obtain⟨Yi,e2,hlt,_⟩:=HL.out.2 h0
   have e3:ad=Yi:=by
    have e4:some ad=some Yi:=e.symm.trans e2
    injection e4
   rw[e3]at hf
   rcases P4 _ hf with y|y
   ·exact qo.out h0 Yi e2 y
   ·omega
  ·obtain⟨g',cap,hv,_,_⟩:=hr.1.form (by rw[<-hil];exact h0)
   have e5:B=some ad:=e
   rw[e5]at hv
   injection hv with hv
   injection hv with hv
   have h1:=hm.lt hf
   have h2:=hr.2 g' (by rw[e5,hv];rfl)
   rw[hv]at h1
   dsimp only at h1
   omega
  ·rintro e w' ⟨rfl,X',hs,hl'⟩
   exact⟨⟨_,rfl⟩,X',(Step.refl hm hW).trans hs,hl'⟩
 have abf:∀W,Kept aj w4 W->Calls Tryz.prog 45 #[mP ep A l.length c fl] W (ND W l):=fun W hW=>Zw W ep fl A c l ((Src.sV HL.out hfk qo.out).kept hW (fun _ _ z=>z)) jW.out
 have b0:∀W,Kept aj w4 W->W.cell? ⟨w.heap.size,0,none⟩=some (.int .i64 ep)/\W.cell? ⟨w.heap.size,1,none⟩=some (.slice A l.length c)/\W.cell? ⟨w.heap.size,2,none⟩=some (.int .u64 fl):=fun W hW=>⟨(hn4.kept hW (fun z=>z)).cell 0,(hn4.kept hW (fun z=>z)).cell 1,(hn4.kept hW (fun z=>z)).cell 2⟩
 have hbf:¬dU X (mk0 mF) w.heap.size:=fun hf=>by
  rcases KD _ hf with y|y
  ·exact Nat.lt_irrefl _ (JJ.out _ y)
  ·have h1:=dA.out.lt;omega
 have HBF:=ah hbf;have NY:=ah hn4
 obtain⟨M1,hM1⟩:∃M1,writeM (mk0 mF) (lG ep l fl (ids l))=M1:=⟨_,rfl⟩
 have hst1:uT M1.st:=by rw[<-hM1];exact uT.write KA (yH qB.out)
 have hNM:wO ep l fl=mX M1:=by rw[<-hM1];rfl
 rw[hM1]at hwr
 simp only[vI,aH,List.length_nil,E9]at hwr
 have oM:=ah hwr;have F7:=ah abf;have HB0:=ah b0;have Xv:=ah hst1;have Nz:=ah hNM;have YO:=ah P4;have HFK:=ah hfk;have yB:=ah hm;have HG:=ah hXg
 clear hbf KD h02 hwr abf b0 hst1 hNM hM1 P4 hfk hm hXg hXn Xu hb hn4 hk4 hft
 obtain⟨c0,c1,c2⟩:=HB0.out _ (Kept.refl _ _)
 go_wp2_with fail
 go_region_held3 (fun W=>W.cell? ⟨w.heap.size,0,none⟩=some (.int .i64 ep)/\W.cell? ⟨w.heap.size,1,none⟩=some (.slice A l.length c)/\W.cell? ⟨w.heap.size,2,none⟩=some (.int .u64 fl)) (first|with_reducible exact z2|with_reducible exact z1|with_reducible exact⟨c0,c1,c2⟩|(simp[go_sem,c0,c1,c2];done))
  (first
   |(go_at_call 45;refine(F7.out _ (by(repeat'(first|(with_reducible first|exact ak|apply au|apply ay|apply aA|apply aB)|(right;simp;done))))).mono ?_;rintro e w5 ⟨B,d,rfl,hr,hk5⟩;have hk:=Kept.then (F:=aj) (a:=w4) (by(repeat'(first|(with_reducible first|exact ak|apply au|apply ay|apply aA|apply aB)|(right;simp;done)))) hk5;have z1:=HB0.out _ hk;have hr3:aF 3 1 w4.heap.size w5 B l.length d (ints (ids l)):=hr;have HR:=ah hr3;have cO:=ah hk;clear hk hk5 hr hr3)
   |(go_at_call 44;refine(oM.out _ B d (by(repeat'(first|(with_reducible first|exact ak|apply au|apply ay|apply aA|apply aB)|(exact cO.out)|(right;simp;done)))) (aF.kept HR.out (by(repeat'(first|(with_reducible first|exact ak|apply au|apply ay|apply aA|apply aB)|(right;simp;done)))))).mono ?_;rintro e w6 ⟨⟨kk,rfl⟩,X6,hs6,hl6⟩;have z2:w6.cell? ⟨w.heap.size,0,none⟩=some (.int .i64 ep)/\w6.cell? ⟨w.heap.size,1,none⟩=some (.slice A l.length c)/\w6.cell? ⟨w.heap.size,2,none⟩=some (.int .u64 fl):=(by have h6:=Has.kept NY.out hs6.k (by exact HBF.out);exact⟨h6.cell 0,h6.cell 1,h6.cell 2⟩);have mW:=ah hs6;have HL6:=ah hl6;clear hs6 hl6))
 clear c0 c1 c2 z1 z2
 have hdone:=vT mW.out.at' HL6.out (by omega) Xv.out.inv.ok Xv.out.su Xv.out.inv.pl
 rw[mW.out.mb]at hdone
 have HDO:=ah hdone;clear hdone
 go_wp2_with fail
 refine HDO.out.mono ?_
 rintro e w7 ⟨A7,d7,rfl,-,-,X7,hs7,zT,-⟩
 have hst:=mW.out.trans hs7
 have hfin:DN w F g ep l fl (.returned (.tuple #[.pointer (some ⟨X.mb,0,none⟩),.int .i64 0])) w7:=by
  unfold DN
  rw[Nz.out]
  refine⟨X7,by rw[hst.mb],hst.at',zT,hst.dk.trans HG.out,fun k hk=> ?_,?_⟩
  ·rcases hst.g k hk with y|y
   ·exact YO.out k y
   ·have h2:=HFK.out.size;exact .inr (by omega)
  ·exact HFK.out.trans hst.k (fun k hk=>YO.out k hk)
 have HF:=ah hfin
 clear hst hs7 zT hfin
 go_wp2
 go_ret2
 exact HF.out
end
end dM
namespace dM
open aP Vn Mst lJ IM nG gX
section
variable{w w':World}{X X0:MX}{M M0:MR}{c:Nat}
theorem dG.cell(h:dG w X M){i:Nat}{v:Value}(hv:(B6 X M)[i]? =some v):w.cell? ⟨X.mb,i,none⟩=some v:=by
 have h1:w.cell? ⟨X.mb,i,none⟩=(B6 X M)[i]? :=Has.cell (h.c 0) i
 rw[h1,hv]
theorem Ut(h:dG w X M)(hok:nR M.st):Calls Tryz.prog 12 #[.pointer (some ⟨X.mb,0,none⟩)] w (qU w M.st.ep M.st.fl M.st.ms):=by
 have h1:=fun W (hW:Kept aj w W)=>Bj (h.quiet hW)
 have q:=fun W (hW:Kept aj w W)=>(h.quiet hW).cell (i:=2) rfl
 have h2:=fun W (hW:Kept aj w W)=>pV ((h.quiet hW).c 2) hok
 have H1:=ah h1;have H2:=ah h2;have HQ:=ah q;clear h h1 h2 hok q
 go_enter Tryz.func12,Tryz.ntmps12
 go_wp2_with fail
 refine(H1.out _ (by(repeat'(first|(with_reducible first|exact ak|apply au|apply ay|apply aA|apply aB)|(right;simp;done))))).mono ?_
 rintro e w1 ⟨rfl,rfl⟩
 have q:=HQ.out (w.alloc (.cells #[.int .i64 0,.slice none 0 0,.int .u64 0] 25)) (by(repeat'(first|(with_reducible first|exact ak|apply au|apply ay|apply aA|apply aB)|(right;simp;done))))
 go_wp2_with fail
 refine(H2.out _ (by(repeat'(first|(with_reducible first|exact ak|apply au|apply ay|apply aA|apply aB)|(right;simp;done))))).mono ?_
 rintro e w3 ⟨A1,c1,rfl,hn,hk⟩
 clear q
 have hb1:=(Has.new w 25 #[.int .i64 0,.slice none 0 0,.int .u64 0]).kept hk (fun z=>z)
 have c0:=hb1.cell 0
 have f0:=hb1.frozen 0
 have c1':=hb1.cell 1
 have f1:=hb1.frozen 1
 have c2:=hb1.cell 2
 have f2:=hb1.frozen 2
 simp only[List.getElem?_toArray,List.getElem?_cons_zero,List.getElem?_cons_succ]at c0 c1' c2
 have hz:w.heap.size<(w.alloc (.cells #[.int .i64 0,.slice none 0 0,.int .u64 0] 25)).heap.size:=by rw[size_alloc];exact Nat.lt_succ_self _
 have HZ:=ah hz
 have HB1:=ah hb1;have HN:=ah hn;have bf:=ah (Kept.then (F:=aj) (a:=w) (by(repeat'(first|(with_reducible first|exact ak|apply au|apply ay|apply aA|apply aB)|(right;simp;done)))) hk);clear hb1 hn hk hz
 go_wp2
 have hfin:=((HB1.out.put 0 (Value.int .i64 M.st.ep)).put 1 (Value.slice A1 M.st.ms.length c1)).put 2 (Value.int .u64 M.st.fl)
 refine bodyPost_ret (results_cell_row rfl _ _ w.heap.size 25 _ (0,0) _ rfl hfin Tryz.underlying25 rfl (by kernel_rfl)) rfl ?_
 have hk9:∀W (i:Nat) u,Kept aj w W->Kept aj w (W.setCell ⟨w.heap.size,i,none⟩ u):=fun W i u hW=>hW.put (.inr (Nat.le_refl _))
 have hz:=HZ.out
 refine⟨A1,c1,rfl,⟨?_,fun g hg=>by have:=HN.out.2 g hg;omega⟩,hk9 _ _ _ (hk9 _ _ _ (hk9 _ _ _ (bf.out)))⟩
 refine aC (F:=fun k=>k=w.heap.size) HN.out.1 ((((Kept.refl (fun k=>k=w.heap.size) w3).put (.inl rfl)).put (.inl rfl)).put (.inl rfl)) (fun g hg hF=> ?_)
 have h1:=HN.out.2 g hg
 omega
end
end dM
namespace dM
open aP Vn Mst lJ IM nG gX
structure bQ(M:MR)(k:Nat):Prop where
 st:uT M.st
 p3:M.pins.length<=3
 pin:∀p∈M.pins,0<=p.left/\p.left<=8/\0<=p.at'/\p.at'<=aT
 sF:xk M.ns M.tk
 last:0<=M.last/\M.last<=aT
 marks:∀i v,M.marks i=some v->0<=v/\v<=aT
 iP:∀i v,M.iP i=some v->I64 v
 cnt:M.cnt<=8*k
theorem bQ.mono{M:MR}{k j:Nat}(h:bQ M k)(hj:k<=j):bQ M j:=⟨h.st,h.p3,h.pin,h.sF,h.last,h.marks,h.iP,by have:=h.cnt;omega⟩
section
variable{w w':World}{X X0:MX}{M M0:MR}{c k:Nat}
theorem jq{i:Int}(h0:0<=i)(h1:i<4):I64 i:=aJ.jq h0 (by omega)
end
end dM
namespace aP
theorem P5(w:World)(ep fl:Int)(A:Option Addr)(c:Nat)(l:List Mem)(x:Mem)(hl:Src w 2 A l.length (aS l))(hlen:l.length<=1000000):
  Calls Tryz.prog 140 #[mP ep A l.length c fl,iJ x] w fun e w'=>(∃n:Int,e=.returned (.int .i64 n)/\(0<=n↔x∈l)/\(n= -1\/0<=n))/\Kept aj w w':=by
 have HL:=ah hl;clear hl
 obtain⟨x1,x2⟩:=x
 have hn1:=(Has.new w 25 #[.int .i64 ep,.slice A l.length c,.int .u64 fl]).alloc (.cells #[.int .i64 x1,.int .i64 x2] 53)
 have hn2:=Has.new (w.alloc (.cells #[.int .i64 ep,.slice A l.length c,.int .u64 fl] 25)) 53 #[.int .i64 x1,.int .i64 x2]
 rw[size_alloc]at hn2
 have c0:=hn1.cell 1
 simp only[List.getElem?_toArray,List.getElem?_cons_zero,List.getElem?_cons_succ]at c0
 have dA:=ah hn2;clear hn2 hn1
 unfold iJ
 dsimp only
 go_enter Tryz.func140,Tryz.ntmps140
 go_wp2_with fail
 go_loopw [5,10] (fun v5 v10 wr=>∃i:Nat,i<=l.length/\v10=.int .i64 i/\Has wr (w.heap.size+1) 53 #[.int .i64 x1,.int .i64 x2]/\Kept aj w wr/\((x1,x2)∈l↔(x1,x2)∈l.drop i)) (fun _ v10 _=>l.length-(intOf v10).toNat)
 case atStart=>exact⟨0,Nat.zero_le _,rfl,dA.out,((Kept.refl _ _).alloc _).alloc _,Iff.rfl⟩
 case round=>
  obtain⟨i,hi,rfl,hh2,hk,he⟩:=hrel
  have e1:∀o,(wr.alloc o).cell? ⟨w.heap.size+1,0,none⟩=some (.int .i64 x1):=fun o=>(hh2.alloc o).cell 0
  have e2:∀o,(wr.alloc o).cell? ⟨w.heap.size+1,1,none⟩=some (.int .i64 x2):=fun o=>(hh2.alloc o).cell 1
  have CP:=ah hh2;clear hh2
  have HK:=ah hk;clear hk
  have HE:=ah he;clear he
  by_cases hil:i<l.length
  ·obtain⟨m,hm⟩:∃m,l[i]? =some m:=⟨_,List.getElem?_eq_getElem hil⟩
   obtain⟨ad,hA,had,d0,d1⟩:=ig (HL.out.kept HK.out (fun _ _ x=>x)) (by omega) i m hm
   subst hA
   have hs:(x1,x2)∈l.drop i↔m=(x1,x2)\/(x1,x2)∈l.drop (i+1):=by rw[drop_cons hm,List.mem_cons,eq_comm]
   have Xw:=Lr m (x1,x2)
   obtain⟨b,hb⟩:∃b:Bool,b=decide (m=(x1,x2)):=⟨_,rfl⟩
   rw[<-hb]at Xw
   have HB:=ah hb;clear hb
   have HS:=ah hs;clear hs hm
   obtain⟨m1,m2⟩:=m
   unfold iJ at Xw
   dsimp only at d0 d1 Xw
   cases b
   ·go_wp2_with fail
    go_roundw
    case rel=>exact⟨i+1,by omega,by go_num,CP.out.alloc _,HK.out.alloc _,by rw[HE.out,HS.out];have:=HB.out;simp at this;simp;omega⟩
    case measure=>simp[intOf];omega
   ·go_wp2_with fail
    go_ret
    exact⟨⟨_,rfl,⟨fun _=>by rw[HE.out,HS.out];have:=HB.out;simp at this;exact .inl (by simp[this]),fun _=>by omega⟩,.inr (by omega)⟩,HK.out.alloc _⟩
  ·obtain rfl:i=l.length:=by omega
   go_wp2
   go_ret
   exact⟨⟨-1,rfl,⟨fun h=>by omega,fun h=>by rw[HE.out,List.drop_length]at h;cases h⟩,.inl rfl⟩,HK.out⟩
end aP
end Go.Proofs.YtolkgbafebehfaaGreat

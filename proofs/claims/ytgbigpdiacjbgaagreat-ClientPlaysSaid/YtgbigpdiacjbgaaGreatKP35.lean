/- Part 36. -/
import Derived.Test.YtgbigpdiacjbgaaGreatKP34
set_option linter.unusedSimpArgs false
set_option linter.unusedVariables false
set_option maxHeartbeats 32000000
set_option maxRecDepth 100000
namespace Go.Proofs.YtgbigpdiacjbgaaGreat
open Go.RowKit
namespace Rm
open bg Ops fG eP MO Vn bJ qh iI Go.Proofs.YtgbigpdiacjbgaaGreat.Ask
attribute [local go_sem↓] bW cZ
section
variable{w W W':World}{s:ByteArray}{g b4 b6 l8:Nat}{m x x':aO}{r r':RS}{v:Value}{e:Ending}
theorem Yi{s:ByteArray}{r:RS}(h:(aN s 65536 r).2.2≠0):uo s r=((zero,0),(aN s 65536 r).2.2):=if_pos h
theorem aab{s:ByteArray}{r:RS}(h:(aN s 65536 r).2.2=0):uo s r=Ae (aN s 65536 r).1:=if_neg (fun z=>z h)
def Bv(s:ByteArray)(n:Nat)(r:RS):Int:=if(dH s n r).2.2≠0 then (dH s n r).2.2 else(dH s n r).2.1.2
theorem N7{s:ByteArray}{most:Nat}{r:RS}(h:(aG s most r).2.2≠0):(aG s most r).1=0:=by
 unfold aG at h⊢;split
 ·rfl
 ·rename_i h1;rw[if_neg h1]at h;exact KX h
def StE(s:ByteArray)(n:Nat)(r3:RS)(i:Nat)(er:Int)(l:List iM)(r:RS):Prop:=
 (er=0/\r.2=0/\dH s i r3=(l.map Ah,r,0)/\l.length=i)\/(er≠0/\r.2=0/\Bv s n r3=er/\l.length<=n)\/(er=0/\r.2≠0/\Bv s n r3=r.2/\l.length<=n)
def aac(s:ByteArray)(n:Nat)(r3:RS)(er:Int)(l:List iM)(r:RS):Prop:=
 (er=0/\r.2=0/\dH s n r3=(l.map Ah,r,0))\/(er≠0/\Bv s n r3=er)\/(er=0/\r.2≠0/\Bv s n r3=r.2)
theorem aad{wr w5 w6:World}{A A1:Option Addr}{c c1:Nat}{l:List iM}{y:iM}(o:Oo w g b4 b6 l8)(h:Dm w s g b4 b6 l8 m {m with eA:=A,ec:=c,es:=l} r wr)(hr:bV 183 4 (l8+1) wr A l.length c (kM l))(hes:lu wr (l8+1) l)(hsp:Ph A l.length c l)
  (hy:Src wr 3 y.A y.ops.length (cells y.ops)/\y.ops.length<=y.c/\(∀ad,y.A=some ad->l8+1<=ad.block)/\0<=y.ts/\y.ts<=aY) (hys:∀ad,y.A=some ad->(Value.slice A l.length c).ownBlock≠some ad.block) (hk:Kept aj wr w5)
  (ho:w6.ownsRow 0 183 4 (.slice A1 (l.length+1) c1) (l.length+1) (kM l++zn y)) (hg:w5.grownBy w6 (Value.slice A l.length c).ownBlock) (ha:(Value.slice A1 (l.length+1) c1).ownBlock=(Value.slice A l.length c).ownBlock\/(Value.slice A1 (l.length+1) c1).ownBlock=some w5.heap.size):
  Has w6 l8 63 (au {m with eA:=A,ec:=c,es:=l}).toArray/\(Dm w s g b4 b6 l8 m {m with eA:=A1,ec:=c1,es:=l++[y]} r (w6.setCell ⟨l8,19,none⟩ (.slice A1 (l.length+1) c1))/\bV 183 4 (l8+1) (w6.setCell ⟨l8,19,none⟩ (.slice A1 (l.length+1) c1)) A1 (l++[y]).length c1 (kM (l++[y]))/\
   lu (w6.setCell ⟨l8,19,none⟩ (.slice A1 (l.length+1) c1)) (l8+1) (l++[y])/\Ph A1 (l++[y]).length c1 (l++[y])):=by
 obtain⟨h1,h2⟩:=h.grown o hk (Nat.lt_succ_self l8) hr.2 hg;have hB:l8+1<=w5.heap.size:=Nat.le_trans h.h8.lt hk.size;have hlen:(l++[y]).length=l.length+1:=by simp
 have aZ:Kept (fun k=>(Value.slice A l.length c).ownBlock=some k\/k=l8) wr (w6.setCell ⟨l8,19,none⟩ (.slice A1 (l.length+1) c1)):=Kept.put (h2.mono (fun _ z=> .inl z)) (.inl (.inr rfl));refine⟨h1.h8,h1.put o (by unfold au;dsimp only;rw[hlen];rfl),?_,?_,?_⟩
 ·rw[EV,hlen]
  exact Eg ⟨ho,fun k hk'=>by
   rcases ha with e|e
   ·exact hr.2 k (e.symm.trans hk')
   ·have h9:=e.symm.trans hk';injection h9 with h9;omega⟩ (Nat.lt_succ_self l8)
 ·intro z hz;rcases List.mem_append.1 hz with hz|hz
  ·refine(hes.kept2 aZ (fun z hz hp ad e hf=> ?_)) z hz;rcases hf with hf|hf
   ·exact hsp z hz hp ad e hf
   ·have:=(hes z hz).2.2.1 ad e;omega
  ·rw[List.mem_singleton.1 hz]
   exact⟨hy.1.kept aZ (fun ad e hf=>by
    rcases hf with hf|hf
    ·exact hys ad e hf
    ·have:=hy.2.2.1 ad e;omega),hy.2⟩
 ·intro z hz hp ad e hb;rw[hlen]at hb;rcases ha with h9|h9
  ·have hb':=h9.symm.trans hb;rcases List.mem_append.1 hz with hz|hz
   ·exact hsp z hz hp ad e hb'
   ·rw[List.mem_singleton.1 hz]at e;exact hys ad e hb'
  ·have hb':=h9.symm.trans hb;injection hb' with hb';have hs:=hk.size;rcases List.mem_append.1 hz with hz|hz
   ·have:=oM (hes z hz).1 ⟨hp,ad,e,rfl⟩;omega
   ·rw[List.mem_singleton.1 hz]at e hp;have:=oM hy.1 ⟨hp,ad,e,rfl⟩;omega
theorem aaZ{B:Nat}(h:fB w g s r)(hs:s.size<=maxLen)(m:aO)(hx:dF w B m)(hB:g<B)(hBw:B<=w.heap.size)(h0:m.eA=none/\m.ec=0/\m.es=[]):Calls Tryz.prog 71 #[.pointer (some ⟨g,0,none⟩),aK m,.int .u8 69] w (gu w s g B 69 m r):=by
 obtain⟨W0,W1,Wz,W8,hW0,hW1,gY,hl,hst,hd,ho⟩:=Dm.start h m;have hrd:=jK W8 g s r 4 hd.rd hs (by decide);have oq:=jG s 4 r;have hno:=fun h=>N7 (s:=s) (most:=4) (r:=r) h;have hxe:m={m with eA:=none,ec:=0,es:=[]}:=by cases m;dsimp only at h0;obtain⟨rfl,rfl,rfl⟩:=h0;rfl
 have hp:bG s 69 (strip m) r=({strip m with es:=(dH s (aG s 4 r).1 (aG s 4 r).2).1},(dH s (aG s 4 r).1 (aG s 4 r).2).2.1,Bv s (aG s 4 r).1 (aG s 4 r).2):=rfl
 have hfin:∀W W5 A cc l' r' er,l'.length<=4->aac s (aG s 4 r).1 (aG s 4 r).2 er l' r'->bV 183 4 (W1.heap.size+1) W A l'.length cc (kM l')->lu W (W1.heap.size+1) l'->fB W5 g s r'->Kept (fun k=>k=g) w W5->Kept (fun k=>k=W0.heap.size) W W5->
   gu w s g B 69 m r (.returned (.tuple #[aK {m with eA:=A,ec:=cc,es:=l'},.int .i64 er])) W5:=fun W W5 A cc l' r' er hl4 hF hrow hes a b d=>by
  have hx:=hx.kept b (fun k hk=>by omega);have hlt:∀k,k=W0.heap.size->k<W1.heap.size+1:=fun k hk=>by have:=ho.zk;omega
  have wY:=yc hrow d hlt;have hww:w.heap.size<=W1.heap.size+1:=by have:=ho.w4;have:=ho.l46;have:=ho.zk;omega
  refine⟨_,er,r',rfl,a,⟨hx.m,hx.mc,hx.mn,hx.ml,hx.o,hx.oc,hx.on,Src.fA wY.1,(mM wY.1).1,(fun ad e=>by have h1:=oQ wY ad e;omega),hl4,(hes.kept d hlt).mono (by omega),hx.s,hx.sl,hx.so,hx.p,hx.pc,hx.pn,hx.pl,hx.t,hx.s0,hx.pm⟩,b,fun k hk=> ?_,⟨.inl rfl,.inr ⟨rfl,rfl,rfl⟩,.inr ⟨rfl,rfl,rfl⟩⟩,fun hz=> ?_,fun hz=> ?_⟩
  ·unfold rowB at hk⊢;dsimp only at hk;rcases hk with z|z|z|z|z|z
   ·exact .inl (.inl z)
   ·exact .inl (.inr (.inl z))
   ·obtain⟨_,ad,e,rfl⟩:=z;exact .inr (by have h1:=oQ hrow ad e;omega)
   ·obtain⟨y,hy,_,ad,e,rfl⟩:=z;exact .inr (by have h1:=(hes y hy).2.2.1 ad e;omega)
   ·exact .inl (.inr (.inr (.inr (.inr (.inl z)))))
   ·exact .inl (.inr (.inr (.inr (.inr (.inr z)))))
  ·rw[hp]at hz⊢;dsimp only at hz⊢;rcases hF with⟨f1,f2,f3⟩|⟨f1,f2⟩|⟨f1,f2,f3⟩
   ·rw[f3];exact⟨f1,rfl,rfl⟩
   ·exact absurd (f2.symm.trans hz) f1
   ·exact absurd (f3.symm.trans hz) f2
  ·rw[hp]at hz⊢;dsimp only at hz⊢;rcases hF with⟨f1,f2,f3⟩|⟨f1,f2⟩|⟨f1,f2,f3⟩
   ·exact absurd (by unfold Bv;rw[f3];exact f2) hz
   ·exact .inl f2.symm
   ·exact .inr ⟨f1,f3.symm⟩
 generalize gu w s g B 69 m r=Q at hfin⊢;obtain⟨q,hq⟩:∃q,aG s 4 r=q:=⟨_,rfl⟩;rw[hq]at hrd oq hno;simp only[hq]at hfin;obtain⟨n,r3⟩:=q;dsimp only at hrd oq hfin hno;obtain⟨b4,hb4⟩:∃b,w.heap.size=b:=⟨_,rfl⟩;obtain⟨b6,hb6⟩:∃b,W0.heap.size=b:=⟨_,rfl⟩;obtain⟨l8,hb8⟩:∃b,W1.heap.size=b:=⟨_,rfl⟩;rw[hb4]at hl;rw[hb8]at hst;rw[hb4,hb6,hb8]at hd ho;simp only[hb6,hb8]at hfin;have hgz:∀k,k=g->k<l8+1:=fun k hk=>by have:=ho.gw;have:=ho.w4;have:=ho.l46;have:=ho.zk;omega
 have aae:StE s n r3 0 0 [] r3:=by
  by_cases h3:r3.2=0
  ·exact .inl ⟨rfl,h3,rfl,rfl⟩
  ·refine .inr (.inr ⟨rfl,h3,?_,Nat.zero_le _⟩);have h4:=hno h3;subst h4;rfl
 have fV:=ah hrd;have bF:=ah hfin;have HD:=ah hd;have HO:=ah ho;have wX:=ah oq;have Eh:=ah hxe;have E7:=ah hgz;have aaf:=ah aae;obtain⟨cs,hcs⟩:∃cs,(au m).toArray=cs:=⟨_,rfl⟩;unfold aK;rw[hcs]at hW0 hl hst⊢;clear hrd hfin hd ho hx hB hBw hq hp h hcs oq hxe h0 hgz aae hno;go_enter Tryz.func71,Tryz.ntmps71;go_wp2_with fail;clear hW0 hW1 gY hl hst hb4 hb6 hb8;refine fV.out.mono ?_;intro e w3 hr;obtain⟨rfl,hd3,hk3⟩:=HD.out.read HO.out hr;have HD3:=ah hd3;clear hr hd3 hk3 HD fV;go_wp2_with fail;go_loopw [9,13] (fun v9 v13 wr=>∃(i:Nat) (er:Int) (A:Option Addr) (cc:Nat) (l':List iM) (r':RS),i<=n/\v13=.int .i64 i/\v9=.int .i64 er/\StE s n r3 i er l' r'/\bV 183 4 (l8+1) wr A l'.length cc (kM l')/\lu wr (l8+1) l'/\Ph A l'.length cc l'/\Dm w s g b4 b6 l8 m {m with eA:=A,ec:=cc,es:=l'} r' wr) (fun _ v13 _=>n-(intOf v13).toNat)
 case atStart=>exact⟨0,0,none,0,[],r3,Nat.zero_le _,rfl,rfl,aaf.out,⟨⟨rfl,.inl ⟨rfl,rfl⟩⟩,fun k hk=>by simp[Value.ownBlock]at hk⟩,(fun y hy=>by cases hy),(fun y hy=>by cases hy),by have h9:=HD3.out;rw[Eh.out]at h9;exact⟨h9.rd,by rw[Eh.out];exact h9.h4,h9.h6,h9.h8,h9.k⟩⟩
 case round=>
  obtain⟨i,er,A,cc,l',r',hi,rfl,rfl,VR,hrow,hes,hsp,hdm⟩:=hrel;clear HD3 Eh aaf;have qe:wr.cell? ⟨g,2,none⟩=some (.int .i64 r'.2):=hdm.rd.1.cell 2;have hfe:=fun(hl4:l'.length<=4) (hF:aac s n r3 er l' r') W5=>bF.out wr W5 A cc l' r' er hl4 hF hrow hes;have hn4:=wX.out;obtain⟨a1,e1⟩:=r';unfold StE at VR;dsimp only at qe VR;rcases VR with⟨rfl,rfl,h3,h4⟩|⟨h1,rfl,h3,h4⟩|⟨rfl,h2,h3,h4⟩
  ·by_cases hin:i<n;rotate_left
   ·have hie:i=n:=by omega
    have wu:=ah (hfe (by omega) (.inl ⟨rfl,rfl,by rw[<-hie];exact h3⟩));have HD1:=ah hdm;clear hfe hdm hrow hes hsp h3 h4 hie bF qe hn4;obtain⟨W5,hst5,h65,dM,hk5,hk6⟩:=HD1.out.fin HO.out;have hl4:=aH _ l8 _ HD1.out.h8;have hend:=wu.out W5 dM hk5 hk6;have aX:=ah hend;have gQ:=ah (aH _ _ _ h65);obtain⟨cs2,hcs2⟩:∃cs,(au {m with eA:=A,ec:=cc,es:=l'}).toArray=cs:=⟨_,rfl⟩;unfold aK at aX;rw[hcs2]at hst5 hl4 gQ aX;clear dM hk5 hk6 hend h65 hcs2 HD1 wu;go_wp2_with fail;refine bodyPost_ret (aU rfl _ _ b6 _ rfl gQ.out) rfl ?_;exact aX.out
   ·have hstep:dH s (i+1) r3=if(uo s (a1,0)).2≠0 then ([],(aN s 65536 (a1,0)).2,(uo s (a1,0)).2)else(l'.map Ah++[Pg (uo s (a1,0)).1],(aN s 65536 (a1,0)).2,0):=by rw[dH,h3,if_neg (by simp)]
    have hts:=SI s (a1,0);have hie:=Yi (s:=s) (r:=(a1,0));have LJ:=aab (s:=s) (r:=(a1,0));have htx:=oU wr g s (a1,0) 65536 hdm.rd hs (by decide);have hsz:(aN s 65536 (a1,0)).1.size<=maxLen:=Nat.le_trans (text_size _ _ _) hs;have hstop:∀z,dH s (i+1) r3=z->z.2.2≠0->Bv s n r3=z.2.2:=fun z e1 e2=>by have h9:=GR s r3 (i:=i+1) (by rw[e1];exact e2) (n-(i+1));rw[show i+1+(n-(i+1))=n by omega,e1]at h9;unfold Bv;rw[h9,if_pos e2]
    obtain⟨q,hq⟩:∃q,aN s 65536 (a1,0)=q:=⟨_,rfl⟩;rw[hq]at htx hstep hie LJ hsz;obtain⟨tx,a2,e2⟩:=q;dsimp only at htx hstep hie LJ hsz;have Ea:=ah htx;have uM:=ah hstep;have Ai:=ah hts;have HIE:=ah hie;have HIO:=ah LJ;have sH:=ah hsz;have HDM:=ah hdm;have dX:=ah hrow;have SK:=ah hes;have vY:=ah hsp;have HL:=ah h4;have PG:=ah hstop;clear htx hstep hts hie LJ hsz hq hdm hrow hes hsp h3 h4 hfe bF hn4 hstop;go_wp2_with fail;clear qe;refine Ea.out.mono ?_;intro e w5 hr;obtain⟨rfl,hd5,hk5⟩:=HDM.out.read HO.out hr;have q5:w5.cell? ⟨g,2,none⟩=some (.int .i64 e2):=hd5.rd.1.cell 2;have GZ:=ah (yc dX.out hk5 E7.out);have FT:=ah (SK.out.kept hk5 E7.out);have HD5:=ah hd5;clear hr hd5 hk5 HDM dX SK Ea;by_cases he:e2=0;rotate_left
    ·have he2:(e2==0)=false:=by simpa using he
     have hst:=uM.out;rw[HIE.out he]at hst;dsimp only at hst;rw[if_pos he]at hst;have abw:=ah (PG.out _ hst he);have HE:=ah he;clear hst he uM HIE HIO PG;have hn4:=wX.out;go_wp2;go_roundw
     case rel=>exact⟨i+1,0,A,cc,l',(a2,e2),by omega,by go_num,rfl,.inr (.inr ⟨rfl,HE.out,abw.out,by have:=HL.out;omega⟩),GZ.out,FT.out,vY.out,HD5.out⟩
     case measure=>simp[intOf];omega
    ·subst he;have LJ:=HIO.out rfl;have hof:=fun W=>VE W tx sH.out;unfold yx qh.Bf at hof;have hts:=Ai.out;have hst:=uM.out;rw[LJ]at hts hst;obtain⟨v,hv⟩:∃v,Ae tx=v:=⟨_,rfl⟩;rw[hv]at hts hst;simp only[hv]at hof;obtain⟨⟨⟨cl,rq,ops⟩,ts⟩,er1⟩:=v;dsimp only at hts hst hof;obtain⟨no,hno⟩:∃no,ops.length=no:=⟨_,rfl⟩;simp only[hno]at hof;have dw:=ah hof;have abx:=ah hts;have HST:=ah hst;have oP:=ah hno;clear LJ hof hts hst hv hno HIO HIE uM Ai;have hz0:=Has.new w5 183 #[.int .i64 0,.int .i64 0,.slice none 0 0,.int .u64 0];have hka:Kept aj w5 (w5.alloc (.cells #[.int .i64 0,.int .i64 0,.slice none 0 0,.int .u64 0] 183)):=(Kept.refl aj w5).alloc _;obtain⟨W7,qg⟩:∃W7,w5.alloc (.cells #[.int .i64 0,.int .i64 0,.slice none 0 0,.int .u64 0] 183)=W7:=⟨_,rfl⟩;obtain⟨z,hz⟩:∃z,w5.heap.size=z:=⟨_,rfl⟩;have hwz:l8+1<=w5.heap.size:=HD5.out.h8.lt;have hrz:∀k,(Value.slice A l'.length cc).ownBlock=some k->k<z:=fun k hk=>by rw[<-hz];exact jB GZ.out.1 hk
     rw[qg]at hz0 hka;rw[hz]at hz0 hwz;have HZ0:=ah hz0;have G4:=ah hka;have HZ:=ah (And.intro hwz hrz);have SV:=ah hz.symm;clear hz0 hka hwz hrz;go_wp2_with fail;clear qg hz q5;refine(dw.out W7).mono ?_;rintro e w8 ⟨A5,c5,rfl,hs5,hc5,aby,tC,hk8⟩;have Aj:=HZ0.out.kept hk8 (fun z=>z);have q0:=Aj.cell 0;have q1:=Aj.cell 1;have q2:=Aj.cell 2;have q3:=Aj.cell 3;have f0:=Aj.frozen 0;have f1:=Aj.frozen 1;have f2:=Aj.frozen 2;have f3:=Aj.frozen 3;simp at q0 q1 q2 q3;have Jv:Has ((((w8.setCell ⟨z,0,none⟩ (.int .i64 cl)).setCell ⟨z,1,none⟩ (.int .i64 rq)).setCell ⟨z,2,none⟩ (.slice A5 no c5)).setCell ⟨z,3,none⟩ (.int .u64 ts)) z 183 #[.int .i64 cl,.int .i64 rq,.slice A5 no c5,.int .u64 ts]:=Has.aQ (Has.aQ (Has.aQ (Has.aQ Aj rfl) rfl) rfl) rfl;have CO:Kept (fun k=>k=z) w8 ((((w8.setCell ⟨z,0,none⟩ (.int .i64 cl)).setCell ⟨z,1,none⟩ (.int .i64 rq)).setCell ⟨z,2,none⟩ (.slice A5 no c5)).setCell ⟨z,3,none⟩ (.int .u64 ts)):=Kept.put (F:=fun k=>k=z) (Kept.put (F:=fun k=>k=z) (Kept.put (F:=fun k=>k=z) (Kept.put (F:=fun k=>k=z) (Kept.refl _ _) (.inl rfl)) (.inl rfl)) (.inl rfl)) (.inl rfl);obtain⟨W9,pJ⟩:∃W9,(((w8.setCell ⟨z,0,none⟩ (.int .i64 cl)).setCell ⟨z,1,none⟩ (.int .i64 rq)).setCell ⟨z,2,none⟩ (.slice A5 no c5)).setCell ⟨z,3,none⟩ (.int .u64 ts)=W9:=⟨_,rfl⟩;rw[pJ]at Jv CO;have hzl:=HZ0.out.lt;have hd9:=((HD5.out.quiet (G4.out.then hk8))).far HO.out HZ.out.1 CO;have TA:bV 183 4 (l8+1) W9 A l'.length cc (kM l'):=⟨aP ((GZ.out.kept (G4.out.then hk8)).1) CO (fun k hk e=>by have:=HZ.out.2 k hk;omega),GZ.out.2⟩
     have he9:lu W9 (l8+1) l':=(FT.out.kept (G4.out.then hk8) (fun _ z=>z.elim)).kept2 CO (fun y hy hp ad e hf=>by have h9:=oM (FT.out y hy).1 ⟨hp,ad,e,rfl⟩;have h8:=Aj.lt;have h7:=G4.out.size;have h6:z=w5.heap.size:=SV.out;omega)
     have ql:Src W9 3 A5 ops.length (cells ops):=by rw[oP.out];exact hs5.kept CO (fun ad e hf=>by have:=tC ad e;omega)
     have TB:∀ad,A5=some ad->l8+1<=ad.block:=fun ad e=>by have h1:=tC ad e;have h2:=HZ.out.1;omega
     have hsn:∀ad,A5=some ad->(Value.slice A l'.length cc).ownBlock≠some ad.block:=fun ad e hb=>by have h1:=tC ad e;have h2:=HZ.out.2 _ hb;omega
     have BO:=Jv.cell 0;have BP:=Jv.cell 1;have RI:=Jv.cell 2;have zz3:=Jv.cell 3;simp only[lF0,List.getElem?_cons_zero,List.getElem?_cons_succ]at BO BP RI zz3;have x1:W9.cell? ⟨l8,19,none⟩=some (.slice A l'.length cc):=hd9.h8.cell 19;have HD9:=ah hd9;have Ei:=ah TA;have HE9:=ah he9;have iW:=ah (And.intro ql (And.intro hc5 (And.intro TB hsn)));have kY:Hid (l'.length+1<=maxLen):=ah (by have:=wX.out;have:=HL.out;unfold maxLen;omega);have kR:Hid ((l'.length+1)*48<=140737488355328):=ah (by have:=wX.out;have:=HL.out;omega);have oq:=wX.out;clear hs5 hc5 aby tC hk8 Aj Jv CO hzl hd9 TA he9 ql TB hsn HZ0 HD5 GZ FT dw G4 SV;go_wp2_with (at_builtin;refine bH Le (.tmp 86) (.tmp 88) rfl rfl (Value.slice A l'.length cc) rfl (aP Ei.out.1 (F:=aj) (by(repeat'(first|(with_reducible first|exact ay|apply aA|apply aB|apply aC|apply aF)|(right;simp;done)))) (fun _ _ x=>x)) 1 rfl (Src.kW (t:=183) (size:=4) (m:=1) (cs:=#[.int .i64 cl,.int .i64 rq,.slice A5 no c5,.int .u64 ts]) (by(repeat (with_reducible first|exact Has.dQ _ _ _ (by simp)|apply Has.drew|apply Has.drewN|apply Has.alloc|(apply Has.past<;>(try omega))))) rfl) (by intro u hu;simp at hu;rcases hu with rfl|rfl|rfl|rfl<;>rfl) kY.out kR.out ?_;intro A6 c6 w10 ji fJ ha6;obtain⟨h6,hs6⟩:=aad (y:=⟨cl,rq,A5,c5,ops,ts⟩) HO.out HD9.out Ei.out HE9.out vY.out ⟨iW.out.1,(by show ops.length<=c5;rw[oP.out];exact iW.out.2.1),iW.out.2.2.1,abx.out⟩ iW.out.2.2.2 (by(repeat'(first|(with_reducible first|exact ay|apply aA|apply aB|apply aC|apply aF)|(right;simp;done)))) (by unfold zn;dsimp only;rw[oP.out];exact ji) fJ ha6;have Tf:w10.cell? ⟨l8,19,none⟩=some (.slice A l'.length cc):=h6.cell 19;have Ti:=h6.frozen 19;have qH:=ah hs6;clear ji fJ ha6 h6 hs6);go_roundw
     case rel=>
      refine⟨i+1,er1,A6,c6,l'++[⟨cl,rq,A5,c5,ops,ts⟩],(a2,0),by omega,by go_num,rfl,?_,qH.out.2.1,qH.out.2.2.1,qH.out.2.2.2,qH.out.1⟩;have hst:=HST.out;have hll:(l'++[(⟨cl,rq,A5,c5,ops,ts⟩:iM)]).length=l'.length+1:=by simp
      have hl:=HL.out;by_cases he1:er1=0
      ·subst he1;rw[if_neg (by simp)]at hst;exact .inl ⟨rfl,rfl,by rw[hst,List.map_append];rfl,by rw[hll,hl]⟩
      ·rw[if_pos he1]at hst;exact .inr (.inl ⟨he1,rfl,PG.out _ hst he1,by rw[hll,hl];omega⟩)
     case measure=>simp[intOf];omega
  ·have he2:(er==0)=false:=by simpa using h1
   have wu:=ah (hfe (by omega) (.inr (.inl ⟨h1,h3⟩)));have HD1:=ah hdm;clear hfe hdm hrow hes hsp h3 h4 h1 bF hn4;by_cases hin:i<n
   all_goals
    obtain⟨W5,hst5,h65,dM,hk5,hk6⟩:=HD1.out.fin HO.out
    have hl4:=aH _ l8 _ HD1.out.h8
    have hend:=wu.out W5 dM hk5 hk6
    have aX:=ah hend;have gQ:=ah (aH _ _ _ h65)
    obtain⟨cs2,hcs2⟩:∃cs,(au {m with eA:=A,ec:=cc,es:=l'}).toArray=cs:=⟨_,rfl⟩
    unfold aK at aX
    rw[hcs2]at hst5 hl4 gQ aX
    clear dM hk5 hk6 hend h65 hcs2 HD1 wu
    go_wp2_with fail
    refine bodyPost_ret (aU rfl _ _ b6 _ rfl gQ.out) rfl ?_
    exact aX.out
  ·have he2:(e1==0)=false:=by simpa using h2
   have wu:=ah (hfe (by omega) (.inr (.inr ⟨rfl,h2,h3⟩)));have HD1:=ah hdm;clear hfe hdm hrow hes hsp h3 h4 h2 bF hn4;by_cases hin:i<n
   all_goals
    obtain⟨W5,hst5,h65,dM,hk5,hk6⟩:=HD1.out.fin HO.out
    have hl4:=aH _ l8 _ HD1.out.h8
    have hend:=wu.out W5 dM hk5 hk6
    have aX:=ah hend;have gQ:=ah (aH _ _ _ h65)
    obtain⟨cs2,hcs2⟩:∃cs,(au {m with eA:=A,ec:=cc,es:=l'}).toArray=cs:=⟨_,rfl⟩
    unfold aK at aX
    rw[hcs2]at hst5 hl4 gQ aX
    clear dM hk5 hk6 hend h65 hcs2 HD1 wu
    go_wp2_with fail
    refine bodyPost_ret (aU rfl _ _ b6 _ rfl gQ.out) rfl ?_
    exact aX.out

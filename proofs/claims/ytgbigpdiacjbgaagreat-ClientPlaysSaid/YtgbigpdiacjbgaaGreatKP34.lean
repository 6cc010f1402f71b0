/- Part 35. -/
import Derived.Test.YtgbigpdiacjbgaaGreatKP33
set_option linter.unusedSimpArgs false
set_option linter.unusedVariables false
set_option maxHeartbeats 32000000
set_option maxRecDepth 100000
namespace Go.Proofs.YtgbigpdiacjbgaaGreat
open Go.RowKit
namespace Rm
open bg Ops fG eP MO Vn bJ qh iI Go.Proofs.YtgbigpdiacjbgaaGreat.Ask
attribute [local go_sem↓] bW cZ
theorem GY(s:ByteArray){r:RS}(h:r.2≠0):(bD s r).2=r:=by unfold bD;rw[if_pos h]
theorem E8(s:ByteArray)(k:Nat){r:RS}(h:r.2≠0):(aN s k r).2=r:=by unfold aN;rw[GY s h,if_pos h]
theorem PE(s:ByteArray)(r:RS):∀k,∀z∈(bM s k r).1,0<=z/\z<=aY:=by
 intro k;induction k with
 |zero=>intro z hz;cases hz
 |succ k ih=>
  intro z hz;rcases List.mem_append.1 hz with h|h
  ·exact ih z h
  ·rw[List.mem_singleton.1 h];exact wV s _
theorem Dk(s:ByteArray)(r:RS){i:Nat}(h:(bM s i r).2.2≠0):∀k,(bM s (i+k) r).2=(bM s i r).2:=by
 intro k;induction k with
 |zero=>rfl
 |succ k ih=>
  show(bD s (bM s (i+k) r).2).2=_;rw[GY s (by rw[ih];exact h),ih]
theorem Ef(s:ByteArray)(r:RS){i:Nat}(h:(cO s i r).2.2≠0):∀k,(cO s (i+k) r).2=(cO s i r).2:=by
 intro k;induction k with
 |zero=>rfl
 |succ k ih=>
  show(aN s 8 (aN s 8 (cO s (i+k) r).2).2).2=_;rw[E8 s 8 (r:=(cO s (i+k) r).2) (by rw[ih];exact h),E8 s 8 (by rw[ih];exact h),ih]
section
variable{w W W':World}{s:ByteArray}{g b4 b6 l8:Nat}{m x x':aO}{r r':RS}{v:Value}{e:Ending}
theorem Dm.grown(o:Oo w g b4 b6 l8)(h:Dm w s g b4 b6 l8 m x r W){W1 W6:World}(hW:Kept aj W W1){u:Value}{B8:Nat}(hB:l8<B8)(hr:∀k,u.ownBlock=some k->B8<=k)(hg:W1.grownBy W6 u.ownBlock):Dm w s g b4 b6 l8 m x r W6/\Kept (fun k=>u.ownBlock=some k) W W6:=by
 have hk:Kept (fun k=>u.ownBlock=some k) W W6:=Kept.grownBy (hW.mono (fun _ z=>z.elim)) hg (fun k hk=> .inl hk);have a:=o.gw;have b:=o.w4;have c:=o.l46;have d:=o.zk;have hn:∀k,k<=l8->¬u.ownBlock=some k:=fun k h1 h2=>by have:=hr k h2;omega
 exact⟨⟨h.rd.kept hk (hn g (by omega)),h.h4.kept hk (hn b4 (by omega)),h.h6.kept hk (hn b6 (by omega)),h.h8.kept hk (hn l8 (Nat.le_refl _)),h.k.trans hk (fun k hk=> .inr (by have:=hr k hk;omega))⟩,hk⟩
theorem Dm.far(o:Oo w g b4 b6 l8)(h:Dm w s g b4 b6 l8 m x r W){z:Nat}(hz:l8+1<=z)(hk:Kept (fun k=>k=z) W W'):Dm w s g b4 b6 l8 m x r W':=by have a:=o.gw;have b:=o.w4;have c:=o.l46;have d:=o.zk;exact⟨h.rd.kept hk (by omega),h.h4.kept hk (by omega),h.h6.kept hk (by omega),h.h8.kept hk (by omega),h.k.trans hk (fun k hk=> .inr (by omega))⟩
theorem Eg{W:World}{e:TypeId}{size B n c l8 i:Nat}{A:Option Addr}{xs:List Value}{u:Value}(h:bV e size B W A n c xs)(hl:l8<B):bV e size B (W.setCell ⟨l8,i,none⟩ u) A n c xs:=
 ⟨aP (F:=fun k=>k=l8) h.1 ((Kept.refl _ W).put (.inl rfl)) (fun k hk e=>by have:=h.2 k hk;omega),h.2⟩
theorem yc{W W':World}{e:TypeId}{size B n c:Nat}{A:Option Addr}{xs:List Value}{F:Nat->Prop}(h:bV e size B W A n c xs)(hk:Kept F W W')(hF:∀k,F k->k<B):bV e size B W' A n c xs:=
 ⟨aP h.1 hk (fun k hk f=>by have h1:=h.2 k hk;have h2:=hF k f;omega),h.2⟩
theorem Z9{wr w5 w6:World}{A A1:Option Addr}{c c1:Nat}{l:List Int}{z:Int}(o:Oo w g b4 b6 l8)(h:Dm w s g b4 b6 l8 m {m with sA:=A,sc:=c,ss:=l} r wr)(hr:bV 22 1 (l8+1) wr A l.length c (rH l))(hk:Kept aj wr w5)
  (ho:w6.ownsRow 0 22 1 (.slice A1 (l.length+1) c1) (l.length+1) (rH l++[.int .u64 z])) (hg:w5.grownBy w6 (Value.slice A l.length c).ownBlock) (ha:(Value.slice A1 (l.length+1) c1).ownBlock=(Value.slice A l.length c).ownBlock\/(Value.slice A1 (l.length+1) c1).ownBlock=some w5.heap.size):
  Has w6 l8 63 (au {m with sA:=A,sc:=c,ss:=l}).toArray/\(Dm w s g b4 b6 l8 m {m with sA:=A1,sc:=c1,ss:=l++[z]} r (w6.setCell ⟨l8,20,none⟩ (.slice A1 (l.length+1) c1))/\bV 22 1 (l8+1) (w6.setCell ⟨l8,20,none⟩ (.slice A1 (l.length+1) c1)) A1 (l.length+1) c1 (rH (l++[z]))):=by
 obtain⟨h1,h2⟩:=h.grown o hk (Nat.lt_succ_self l8) hr.2 hg;have hB:l8+1<=w5.heap.size:=Nat.le_trans h.h8.lt hk.size;have hlen:(l++[z]).length=l.length+1:=by simp
 refine⟨h1.h8,h1.put o (by unfold au;dsimp only;rw[hlen];rfl),?_⟩;rw[Jq]
 exact Eg ⟨ho,fun k hk'=>by
  rcases ha with e|e
  ·exact hr.2 k (e.symm.trans hk')
  ·have h9:=e.symm.trans hk';injection h9 with h9;omega⟩ (Nat.lt_succ_self l8)
theorem aaX{B:Nat}(h:fB w g s r)(hs:s.size<=maxLen)(m:aO)(hx:dF w B m)(hB:g<B)(hBw:B<=w.heap.size)(h0:m.sA=none/\m.sc=0/\m.ss=[]):Calls Tryz.prog 71 #[.pointer (some ⟨g,0,none⟩),aK m,.int .u8 83] w (gu w s g B 83 m r):=by
 obtain⟨W0,W1,Wz,W8,hW0,hW1,gY,hl,hst,hd,ho⟩:=Dm.start h m;have hrd:=jK W8 g s r 8 hd.rd hs (by decide);have oq:=jG s 8 r;have hxe:m={m with sA:=none,sc:=0,ss:=[]}:=by cases m;dsimp only at h0;obtain⟨rfl,rfl,rfl⟩:=h0;rfl
 have hp:bG s 83 (strip m) r=({strip m with ss:=(bM s (aG s 8 r).1 (aG s 8 r).2).1},(bM s (aG s 8 r).1 (aG s 8 r).2).2,(bM s (aG s 8 r).1 (aG s 8 r).2).2.2):=by rw[show bG s 83 (strip m) r=({strip m with ss:=m.ss++(bM s (aG s 8 r).1 (aG s 8 r).2).1},(bM s (aG s 8 r).1 (aG s 8 r).2).2,(bM s (aG s 8 r).1 (aG s 8 r).2).2.2)from rfl,h0.2.2,List.nil_append]
 have hfin:∀W W5 A cc (i:Nat),i<=(aG s 8 r).1->(i=(aG s 8 r).1\/(bM s i (aG s 8 r).2).2.2≠0)->(i=0->A=none/\cc=0)->bV 22 1 (W1.heap.size+1) W A (bM s i (aG s 8 r).2).1.length cc (rH (bM s i (aG s 8 r).2).1)->Dm w s g w.heap.size W0.heap.size W1.heap.size m {m with sA:=A,sc:=cc,ss:=(bM s i (aG s 8 r).2).1} (bM s i (aG s 8 r).2).2 W->fB W5 g s (bM s i (aG s 8 r).2).2->Kept (fun k=>k=g) w W5->Kept (fun k=>k=W0.heap.size) W W5->
   gu w s g B 83 m r (.returned (.tuple #[aK {m with sA:=A,sc:=cc,ss:=(bM s i (aG s 8 r).2).1},.int .i64 0])) W5:=fun W W5 A cc i hi hor hz0 hrow hdm a b d=>by
  have hx:=hx.kept b (fun k hk=>by omega);have wY:=yc hrow d (fun k hk=>by have:=ho.zk;omega);have hll:(bM s i (aG s 8 r).2).1.length=i:=yA s (aG s 8 r).2 i;have hww:w.heap.size<=W1.heap.size+1:=by have:=ho.w4;have:=ho.l46;have:=ho.zk;omega
  refine⟨_,0,_,rfl,a,⟨hx.m,hx.mc,hx.mn,hx.ml,hx.o,hx.oc,hx.on,hx.e,hx.ec,hx.en,hx.el,hx.eo,⟨wY.1,fun k hk=>by have:=wY.2 k hk;omega⟩,by dsimp only;omega,fun y hy=>PE s _ i y hy,hx.p,hx.pc,hx.pn,hx.pl,hx.t,fun e=>hz0 (by have h9:(bM s i (aG s 8 r).2).1.length=0:=congrArg List.length e;omega),hx.pm⟩,b,fun k hk=> ?_,⟨.inr ⟨rfl,rfl,rfl⟩,.inl rfl,.inr ⟨rfl,rfl,rfl⟩⟩,fun hz=> ?_,fun hz=> ?_⟩
  ·unfold rowB at hk⊢;dsimp only at hk;rcases hk with z|z|z|z|z|z
   ·exact .inl (.inl z)
   ·exact .inl (.inr (.inl z))
   ·exact .inl (.inr (.inr (.inl z)))
   ·exact .inl (.inr (.inr (.inr (.inl z))))
   ·exact .inr (by have h1:=hrow.2 k z;omega)
   ·exact .inl (.inr (.inr (.inr (.inr (.inr z)))))
  ·rw[hp]at hz⊢;dsimp only at hz⊢;rcases hor with rfl|hor
   ·exact⟨rfl,rfl,rfl⟩
   ·have h9:=Dk s (aG s 8 r).2 hor ((aG s 8 r).1-i);rw[show i+((aG s 8 r).1-i)=(aG s 8 r).1 by omega]at h9;rw[h9]at hz;exact absurd hz hor
  ·rw[hp]at hz⊢;dsimp only at hz⊢;rcases hor with rfl|hor
   ·exact .inr ⟨rfl,rfl⟩
   ·have h9:=Dk s (aG s 8 r).2 hor ((aG s 8 r).1-i);rw[show i+((aG s 8 r).1-i)=(aG s 8 r).1 by omega]at h9;rw[h9];exact .inr ⟨rfl,rfl⟩
 generalize gu w s g B 83 m r=Q at hfin⊢;obtain⟨q,hq⟩:∃q,aG s 8 r=q:=⟨_,rfl⟩;rw[hq]at hrd oq;simp only[hq]at hfin;obtain⟨n,r3⟩:=q;dsimp only at hrd oq hfin;obtain⟨b4,hb4⟩:∃b,w.heap.size=b:=⟨_,rfl⟩;obtain⟨b6,hb6⟩:∃b,W0.heap.size=b:=⟨_,rfl⟩;obtain⟨l8,hb8⟩:∃b,W1.heap.size=b:=⟨_,rfl⟩;rw[hb4]at hl;rw[hb8]at hst;rw[hb4,hb6,hb8]at hd ho;simp only[hb4,hb6,hb8]at hfin;have Tv:l8+1<=W8.heap.size:=hd.h8.lt;have fV:=ah hrd;have bF:=ah hfin;have HD:=ah hd;have HO:=ah ho;have wX:=ah oq;have Eh:=ah hxe;have Tz:=ah Tv;obtain⟨cs,hcs⟩:∃cs,(au m).toArray=cs:=⟨_,rfl⟩;unfold aK;rw[hcs]at hW0 hl hst⊢;clear hrd hfin hd ho hx hB hBw hq hp h hcs oq hxe h0 Tv;go_enter Tryz.func71,Tryz.ntmps71;go_wp2_with fail;clear hW0 hW1 gY hl hst hb4 hb6 hb8;refine fV.out.mono ?_;intro e w3 hr;obtain⟨rfl,hd3,hk3⟩:=HD.out.read HO.out hr;have HD3:=ah hd3;have ZO:=ah (Nat.le_trans Tz.out hk3.size);clear hr hd3 hk3 HD fV Tz;go_wp2_with fail;go_loopw [17] (fun v17 wr=>∃(i:Nat) (A:Option Addr) (cc:Nat),i<=n/\v17=.int .i64 i/\(i=0->A=none/\cc=0)/\bV 22 1 (l8+1) wr A (bM s i r3).1.length cc (rH (bM s i r3).1)/\Dm w s g b4 b6 l8 m {m with sA:=A,sc:=cc,ss:=(bM s i r3).1} (bM s i r3).2 wr) (fun v17 _=>n-(intOf v17).toNat)
 case atStart=>exact⟨0,none,0,Nat.zero_le _,rfl,(fun _=>⟨rfl,rfl⟩),⟨⟨rfl,.inl ⟨rfl,rfl⟩⟩,fun k hk=>by simp[Value.ownBlock]at hk⟩,by have h9:=HD3.out;rw[Eh.out]at h9;exact⟨h9.rd,by rw[Eh.out];exact h9.h4,h9.h6,h9.h8,h9.k⟩⟩
 case round=>
  obtain⟨i,A,cc,hi,rfl,hz0,hrow,hdm⟩:=hrel;clear HD3 Eh;have qe:wr.cell? ⟨g,2,none⟩=some (.int .i64 (bM s i r3).2.2):=hdm.rd.1.cell 2;have hlen:=yA s r3 i;have hfe:=fun(hor:i=n\/(bM s i r3).2.2≠0) W5=>bF.out wr W5 A cc i hi hor hz0 hrow hdm;have hstep:bM s (i+1) r3=((bM s i r3).1++[((bD s (bM s i r3).2).1:Int)],(bD s (bM s i r3).2).2):=rfl;obtain⟨l,hl⟩:∃l,(bM s i r3).1=l:=⟨_,rfl⟩;obtain⟨ra,hra⟩:∃ra,(bM s i r3).2=ra:=⟨_,rfl⟩;rw[hl]at hlen;rw[hl,hra]at hstep;rw[hra]at qe;rw[hl]at hrow;rw[hl,hra]at hdm;simp only[hl,hra]at hfe;clear hl hra hz0;obtain⟨a1,er⟩:=ra;dsimp only at qe hfe;by_cases hin:i<n;rotate_left
  ·have hie:i=n:=by omega
   have wu:=ah (hfe (.inl hie));have HD1:=ah hdm;clear hfe hdm hrow hstep hie hlen bF qe;obtain⟨W5,hst5,h65,dM,hk5,hk6⟩:=HD1.out.fin HO.out;have hl4:=aH _ l8 _ HD1.out.h8;have hend:=wu.out W5 dM hk5 hk6;have aX:=ah hend;have gQ:=ah (aH _ _ _ h65);obtain⟨cs2,hcs2⟩:∃cs,(au {m with sA:=A,sc:=cc,ss:=l}).toArray=cs:=⟨_,rfl⟩;unfold aK at aX;rw[hcs2]at hst5 hl4 gQ aX;clear dM hk5 hk6 hend h65 hcs2 HD1 wu;go_wp2_with fail;refine bodyPost_ret (aU rfl _ _ b6 _ rfl gQ.out) rfl ?_;exact aX.out
  by_cases he:er=0;rotate_left
  ·have he2:(er==0)=false:=by simpa using he
   have wu:=ah (hfe (.inr he));have HD1:=ah hdm;clear hfe hdm hrow hstep he hlen bF;obtain⟨W5,hst5,h65,dM,hk5,hk6⟩:=HD1.out.fin HO.out;have hl4:=aH _ l8 _ HD1.out.h8;have hend:=wu.out W5 dM hk5 hk6;have aX:=ah hend;have gQ:=ah (aH _ _ _ h65);obtain⟨cs2,hcs2⟩:∃cs,(au {m with sA:=A,sc:=cc,ss:=l}).toArray=cs:=⟨_,rfl⟩;unfold aK at aX;rw[hcs2]at hst5 hl4 gQ aX;clear dM hk5 hk6 hend h65 hcs2 HD1 wu;go_wp2_with fail;refine bodyPost_ret (aU rfl _ _ b6 _ rfl gQ.out) rfl ?_;exact aX.out
  subst he;clear hfe;have hts:=wV s (a1,0);have hbig:∀W1,Kept aj wr W1->Calls Tryz.prog 68 #[.pointer (some ⟨g,0,none⟩)] W1 fun e w5=>e=.returned (.int .u64 (bD s (a1,0)).1)/\Dm w s g b4 b6 l8 m {m with sA:=A,sc:=cc,ss:=l} (bD s (a1,0)).2 w5/\bV 22 1 (l8+1) w5 A l.length cc (rH l):=fun W1 hW=>(vM W1 g s (a1,0) (hdm.quiet hW).rd hs).mono fun e w5 hr=>by obtain⟨h1,h2,h3⟩:=(hdm.quiet hW).read HO.out hr;exact⟨h1,h2,yc (hrow.kept hW) h3 (fun k hk=>by have:=HO.out.gw;have:=HO.out.w4;have:=HO.out.l46;have:=HO.out.zk;omega)⟩
  obtain⟨q,hq⟩:∃q,bD s (a1,0)=q:=⟨_,rfl⟩;rw[hq]at hstep hts;simp only[hq]at hbig;obtain⟨nb,r5⟩:=q;dsimp only at hstep hts hbig;have m0:wr.cell? ⟨l8,20,none⟩=some (.slice A l.length cc):=hdm.h8.cell 20;have f0:=hdm.h8.frozen 20;rw[hlen]at m0;have hwz:l8+1<=wr.heap.size:=hdm.h8.lt;have uM:=ah hstep;have Ai:=ah hts;have VK:=ah hbig;have eH:=ah hlen;have SV:=ah hwz;have kY:Hid (i+1<=maxLen):=ah (by unfold maxLen;have:=wX.out;omega);have kR:Hid ((i+1)*8<=140737488355328):=ah (by have:=wX.out;omega);clear hstep hts hbig hq hlen hdm hrow bF hwz;go_wp2_with fail;clear qe
  go_region_law (first
   |(go_simp;go_at_call 68;refine(VK.out _ (by(repeat'(first|(with_reducible first|exact ay|apply aA|apply aB|apply aC|apply aF)|(right;simp;done))))).mono ?_;rintro e w5 ⟨rfl,hs5,xN⟩;have m5:w5.cell? ⟨l8,20,none⟩=some (.slice A i cc):=(by rw[<-eH.out];exact hs5.h8.cell 20);have uX:=ah hs5;have Eb:=ah xN;have abt:l8<w5.heap.size:=hs5.h8.lt;clear hs5 xN)
   |(with_reducible apply jL Ls (.tmp 108) (.tmp 111) (n:=i) (xs:=rH l) (A:=some ⟨_,0,none⟩) (m:=1) (c:=1) (news:=[.int .u64 nb])
     rfl
     rfl
     exact(rfl:_=Value.slice A i cc)
     (refine aP (F:=aj) (by rw[<-eH.out];exact Eb.out.1) ?_ (fun _ _ x=>x);(repeat'(first|(with_reducible first|exact ay|apply aA|apply aB|apply aC|apply aF)|(right;simp;done))))
     exact(rfl:_=Value.slice (some ⟨_,0,none⟩) 1 1)
     (refine Src.kW (t:=22) (cs:=#[.int .u64 nb]) ?_ rfl;(repeat (with_reducible first|exact Has.dQ _ _ _ (by simp)|apply Has.drew|apply Has.drewN|apply Has.alloc|(apply Has.past<;>(try omega)))))
     (intro u hu;simp at hu;rcases hu with rfl;rfl)
     exact kY.out
     exact kR.out
     intro A6 c6 w6 ji fJ ha6
     rw[<-eH.out]at ji fJ ha6
     obtain⟨h6,hs6⟩:=Z9 (z:=(nb:Int)) HO.out uX.out Eb.out (by(repeat'(first|(with_reducible first|exact ay|apply aA|apply aB|apply aC|apply aF)|(right;simp;done)))) ji fJ ha6
     have Tf:w6.cell? ⟨l8,20,none⟩=some (.slice A l.length cc):=h6.cell 20
     have Ti:=h6.frozen 20
     rw[eH.out]at hs6
     have qH:=ah hs6;clear ji fJ ha6 h6 hs6))
  all_goals
   clear Tf Ti
   have oq:=wX.out
   go_wp2
   go_roundw
   case rel=>exact⟨i+1,A6,c6,by omega,by go_num,(fun e=>absurd e (by omega)),by rw[uM.out];simpa [eH.out]using qH.out.2,by rw[uM.out];exact qH.out.1⟩
   case measure=>simp[intOf];omega
theorem aaa{wr w5 w6:World}{A A1:Option Addr}{c c1:Nat}{l:List iC}{z:iC}(o:Oo w g b4 b6 l8)(h:Dm w s g b4 b6 l8 m {m with pA:=A,pc:=c,ps:=l} r wr)(hr:bV 84 2 (l8+1) wr A l.length c (bI l))(hk:Kept aj wr w5)
  (ho:w6.ownsRow 0 84 2 (.slice A1 (l.length+1) c1) (l.length+1) (bI l++[.string z.key,.string z.val])) (hg:w5.grownBy w6 (Value.slice A l.length c).ownBlock) (ha:(Value.slice A1 (l.length+1) c1).ownBlock=(Value.slice A l.length c).ownBlock\/(Value.slice A1 (l.length+1) c1).ownBlock=some w5.heap.size):
  Has w6 l8 63 (au {m with pA:=A,pc:=c,ps:=l}).toArray/\(Dm w s g b4 b6 l8 m {m with pA:=A1,pc:=c1,ps:=l++[z]} r (w6.setCell ⟨l8,21,none⟩ (.slice A1 (l.length+1) c1))/\bV 84 2 (l8+1) (w6.setCell ⟨l8,21,none⟩ (.slice A1 (l.length+1) c1)) A1 (l.length+1) c1 (bI (l++[z]))):=by
 obtain⟨h1,h2⟩:=h.grown o hk (Nat.lt_succ_self l8) hr.2 hg;have hB:l8+1<=w5.heap.size:=Nat.le_trans h.h8.lt hk.size;have hlen:(l++[z]).length=l.length+1:=by simp
 refine⟨h1.h8,h1.put o (by unfold au;dsimp only;rw[hlen];rfl),?_⟩;rw[Ec]
 exact Eg ⟨ho,fun k hk'=>by
  rcases ha with e|e
  ·exact hr.2 k (e.symm.trans hk')
  ·have h9:=e.symm.trans hk';injection h9 with h9;omega⟩ (Nat.lt_succ_self l8)
theorem aaY{B:Nat}(h:fB w g s r)(hs:s.size<=maxLen)(m:aO)(hx:dF w B m)(hB:g<B)(hBw:B<=w.heap.size)(h0:m.pA=none/\m.pc=0/\m.ps=[]):Calls Tryz.prog 71 #[.pointer (some ⟨g,0,none⟩),aK m,.int .u8 82] w (gu w s g B 82 m r):=by
 obtain⟨W0,W1,Wz,W8,hW0,hW1,gY,hl,hst,hd,ho⟩:=Dm.start h m;have hrd:=jK W8 g s r 32 hd.rd hs (by decide);have oq:=jG s 32 r;have hxe:m={m with pA:=none,pc:=0,ps:=[]}:=by cases m;dsimp only at h0;obtain⟨rfl,rfl,rfl⟩:=h0;rfl
 have hp:bG s 82 (strip m) r=({strip m with ps:=(cO s (aG s 32 r).1 (aG s 32 r).2).1},(cO s (aG s 32 r).1 (aG s 32 r).2).2,(cO s (aG s 32 r).1 (aG s 32 r).2).2.2):=rfl
 have hfin:∀W W5 A cc (i:Nat),i<=(aG s 32 r).1->(i=(aG s 32 r).1\/(cO s i (aG s 32 r).2).2.2≠0)->(i=0->A=none/\cc=0)->bV 84 2 (W1.heap.size+1) W A (cO s i (aG s 32 r).2).1.length cc (bI (cO s i (aG s 32 r).2).1)->Dm w s g w.heap.size W0.heap.size W1.heap.size m {m with pA:=A,pc:=cc,ps:=(cO s i (aG s 32 r).2).1} (cO s i (aG s 32 r).2).2 W->fB W5 g s (cO s i (aG s 32 r).2).2->Kept (fun k=>k=g) w W5->Kept (fun k=>k=W0.heap.size) W W5->
   gu w s g B 82 m r (.returned (.tuple #[aK {m with pA:=A,pc:=cc,ps:=(cO s i (aG s 32 r).2).1},.int .i64 0])) W5:=fun W W5 A cc i hi hor hz0 hrow hdm a b d=>by
  have hx:=hx.kept b (fun k hk=>by omega);have wY:=yc hrow d (fun k hk=>by have:=ho.zk;omega);have hll:(cO s i (aG s 32 r).2).1.length=i:=zA s (aG s 32 r).2 i;have hww:w.heap.size<=W1.heap.size+1:=by have:=ho.w4;have:=ho.l46;have:=ho.zk;omega
  refine⟨_,0,_,rfl,a,⟨hx.m,hx.mc,hx.mn,hx.ml,hx.o,hx.oc,hx.on,hx.e,hx.ec,hx.en,hx.el,hx.eo,hx.s,hx.sl,hx.so,Src.fA wY.1,(mM wY.1).1,fun ad e=>by have h1:=oQ wY ad e;omega,by dsimp only;omega,hx.t,hx.s0,(mM wY.1).2⟩,b,fun k hk=> ?_,⟨.inr ⟨rfl,rfl,rfl⟩,.inr ⟨rfl,rfl,rfl⟩,.inl rfl⟩,fun hz=> ?_,fun hz=> ?_⟩
  ·unfold rowB at hk⊢;dsimp only at hk;rcases hk with z|z|z|z|z|z
   ·exact .inl (.inl z)
   ·exact .inl (.inr (.inl z))
   ·exact .inl (.inr (.inr (.inl z)))
   ·exact .inl (.inr (.inr (.inr (.inl z))))
   ·exact .inl (.inr (.inr (.inr (.inr (.inl z)))))
   ·obtain⟨_,ad,e,rfl⟩:=z;exact .inr (by have h1:=oQ hrow ad e;omega)
  ·rw[hp]at hz⊢;dsimp only at hz⊢;rcases hor with rfl|hor
   ·exact⟨rfl,rfl,rfl⟩
   ·have h9:=Ef s (aG s 32 r).2 hor ((aG s 32 r).1-i);rw[show i+((aG s 32 r).1-i)=(aG s 32 r).1 by omega]at h9;rw[h9]at hz;exact absurd hz hor
  ·rw[hp]at hz⊢;dsimp only at hz⊢;rcases hor with rfl|hor
   ·exact .inr ⟨rfl,rfl⟩
   ·have h9:=Ef s (aG s 32 r).2 hor ((aG s 32 r).1-i);rw[show i+((aG s 32 r).1-i)=(aG s 32 r).1 by omega]at h9;rw[h9];exact .inr ⟨rfl,rfl⟩
 generalize gu w s g B 82 m r=Q at hfin⊢;obtain⟨q,hq⟩:∃q,aG s 32 r=q:=⟨_,rfl⟩;rw[hq]at hrd oq;simp only[hq]at hfin;obtain⟨n,r3⟩:=q;dsimp only at hrd oq hfin;obtain⟨b4,hb4⟩:∃b,w.heap.size=b:=⟨_,rfl⟩;obtain⟨b6,hb6⟩:∃b,W0.heap.size=b:=⟨_,rfl⟩;obtain⟨l8,hb8⟩:∃b,W1.heap.size=b:=⟨_,rfl⟩;rw[hb4]at hl;rw[hb8]at hst;rw[hb4,hb6,hb8]at hd ho;simp only[hb4,hb6,hb8]at hfin;have Tv:l8+1<=W8.heap.size:=hd.h8.lt;have fV:=ah hrd;have bF:=ah hfin;have HD:=ah hd;have HO:=ah ho;have wX:=ah oq;have Eh:=ah hxe;have Tz:=ah Tv;obtain⟨cs,hcs⟩:∃cs,(au m).toArray=cs:=⟨_,rfl⟩;unfold aK;rw[hcs]at hW0 hl hst⊢;clear hrd hfin hd ho hx hB hBw hq hp h hcs oq hxe h0 Tv;go_enter Tryz.func71,Tryz.ntmps71;go_wp2_with fail;clear hW0 hW1 gY hl hst hb4 hb6 hb8;refine fV.out.mono ?_;intro e w3 hr;obtain⟨rfl,hd3,hk3⟩:=HD.out.read HO.out hr;have HD3:=ah hd3;have ZO:=ah (Nat.le_trans Tz.out hk3.size);clear hr hd3 hk3 HD fV Tz;go_wp2_with fail;go_loopw [19] (fun v19 wr=>∃(i:Nat) (A:Option Addr) (cc:Nat),i<=n/\v19=.int .i64 i/\(i=0->A=none/\cc=0)/\bV 84 2 (l8+1) wr A (cO s i r3).1.length cc (bI (cO s i r3).1)/\Dm w s g b4 b6 l8 m {m with pA:=A,pc:=cc,ps:=(cO s i r3).1} (cO s i r3).2 wr) (fun v19 _=>n-(intOf v19).toNat)
 case atStart=>exact⟨0,none,0,Nat.zero_le _,rfl,(fun _=>⟨rfl,rfl⟩),⟨⟨rfl,.inl ⟨rfl,rfl⟩⟩,fun k hk=>by simp[Value.ownBlock]at hk⟩,by have h9:=HD3.out;rw[Eh.out]at h9;exact⟨h9.rd,by rw[Eh.out];exact h9.h4,h9.h6,h9.h8,h9.k⟩⟩
 case round=>
  obtain⟨i,A,cc,hi,rfl,hz0,hrow,hdm⟩:=hrel;clear HD3 Eh;have qe:wr.cell? ⟨g,2,none⟩=some (.int .i64 (cO s i r3).2.2):=hdm.rd.1.cell 2;have hlen:=zA s r3 i;have hfe:=fun(hor:i=n\/(cO s i r3).2.2≠0) W5=>bF.out wr W5 A cc i hi hor hz0 hrow hdm;have hstep:cO s (i+1) r3=((cO s i r3).1++[⟨(aN s 8 (cO s i r3).2).1,(aN s 8 (aN s 8 (cO s i r3).2).2).1⟩],(aN s 8 (aN s 8 (cO s i r3).2).2).2):=rfl;obtain⟨l,hl⟩:∃l,(cO s i r3).1=l:=⟨_,rfl⟩;obtain⟨ra,hra⟩:∃ra,(cO s i r3).2=ra:=⟨_,rfl⟩;rw[hl]at hlen;rw[hl,hra]at hstep;rw[hra]at qe;rw[hl]at hrow;rw[hl,hra]at hdm;simp only[hl,hra]at hfe;clear hl hra hz0;obtain⟨a1,er⟩:=ra;dsimp only at qe hfe;by_cases hin:i<n;rotate_left
  ·have hie:i=n:=by omega
   have wu:=ah (hfe (.inl hie));have HD1:=ah hdm;clear hfe hdm hrow hstep hie hlen bF qe;obtain⟨W5,hst5,h65,dM,hk5,hk6⟩:=HD1.out.fin HO.out;have hl4:=aH _ l8 _ HD1.out.h8;have hend:=wu.out W5 dM hk5 hk6;have aX:=ah hend;have gQ:=ah (aH _ _ _ h65);obtain⟨cs2,hcs2⟩:∃cs,(au {m with pA:=A,pc:=cc,ps:=l}).toArray=cs:=⟨_,rfl⟩;unfold aK at aX;rw[hcs2]at hst5 hl4 gQ aX;clear dM hk5 hk6 hend h65 hcs2 HD1 wu;go_wp2_with fail;refine bodyPost_ret (aU rfl _ _ b6 _ rfl gQ.out) rfl ?_;exact aX.out
  by_cases he:er=0;rotate_left
  ·have he2:(er==0)=false:=by simpa using he
   have wu:=ah (hfe (.inr he));have HD1:=ah hdm;clear hfe hdm hrow hstep he hlen bF;obtain⟨W5,hst5,h65,dM,hk5,hk6⟩:=HD1.out.fin HO.out;have hl4:=aH _ l8 _ HD1.out.h8;have hend:=wu.out W5 dM hk5 hk6;have aX:=ah hend;have gQ:=ah (aH _ _ _ h65);obtain⟨cs2,hcs2⟩:∃cs,(au {m with pA:=A,pc:=cc,ps:=l}).toArray=cs:=⟨_,rfl⟩;unfold aK at aX;rw[hcs2]at hst5 hl4 gQ aX;clear dM hk5 hk6 hend h65 hcs2 HD1 wu;go_wp2_with fail;refine bodyPost_ret (aU rfl _ _ b6 _ rfl gQ.out) rfl ?_;exact aX.out
  subst he;clear hfe;have hnext:=hstep;obtain⟨p1,hp1⟩:∃p,aN s 8 (a1,0)=p:=⟨_,rfl⟩;obtain⟨k1,ra⟩:=p1;rw[hp1]at hnext;dsimp only at hnext;obtain⟨p2,hp2⟩:∃p,aN s 8 ra=p:=⟨_,rfl⟩;obtain⟨v1,rb⟩:=p2;rw[hp2]at hnext;dsimp only at hnext;have jT:=ah hnext;have HP:=ah (And.intro hp1 hp2);have eH:=ah hlen;have hz0:=Has.new wr 84 #[.string ⟨#[]⟩,.string ⟨#[]⟩];have hka:Kept aj wr (wr.alloc (.cells #[.string ⟨#[]⟩,.string ⟨#[]⟩] 84)):=(Kept.refl aj wr).alloc _;have hda:=hdm.quiet hka;have hra:=hrow.kept hka;have hrz:∀k,(Value.slice A l.length cc).ownBlock=some k->k<wr.heap.size:=fun k hk=>jB hrow.1 hk;have hwz:l8+1<=wr.heap.size:=hdm.h8.lt;clear hstep hnext hp1 hp2 hdm hrow bF hlen hka;go_wp2_with fail;clear qe;obtain⟨W7,qg⟩:∃W7,wr.alloc (.cells #[.string ⟨#[]⟩,.string ⟨#[]⟩] 84)=W7:=⟨_,rfl⟩;obtain⟨z,hz⟩:∃z,wr.heap.size=z:=⟨_,rfl⟩;rw[qg]at hda hra hz0⊢;rw[hz]at hz0 hrz hwz⊢;have HZ:=ah (And.intro hwz hrz);have HDA:=ah hda;have HRA:=ah hra;have HZ0:=ah hz0;clear hda hra hz0 hrz hwz hz qg;have hgz:∀k,k=g->k<l8+1:=fun k hk=>by have:=HO.out.gw;have:=HO.out.w4;have:=HO.out.l46;have:=HO.out.zk;omega
  have E7:=ah hgz;clear hgz;refine(oU _ g s (a1,0) 8 HDA.out.rd hs (by decide)).mono ?_;intro e w6 hr;obtain⟨rfl,hd6,hk6⟩:=HDA.out.read HO.out hr;rw[HP.out.1]at hd6⊢;dsimp only at hd6⊢;have hz1:=HZ0.out.kept hk6 (fun e=>by have:=HZ.out.1;have:=E7.out z e;omega);have z0:=hz1.cell 0;have S9:=hz1.frozen 0;simp only[lF0,List.getElem?_cons_zero,List.getElem?_cons_succ]at z0;have hr6:=yc HRA.out hk6 E7.out;have hkz:Kept (fun k=>k=z) w6 (w6.setCell ⟨z,0,none⟩ (.string k1)):=(Kept.refl _ w6).put (.inl rfl);have hz2:Has (w6.setCell ⟨z,0,none⟩ (.string k1)) z 84 #[.string k1,.string ⟨#[]⟩]:=Has.aQ hz1 rfl;have hd7:=hd6.far HO.out HZ.out.1 hkz;have SX:bV 84 2 (l8+1) (w6.setCell ⟨z,0,none⟩ (.string k1)) A l.length cc (bI l):=⟨aP hr6.1 hkz (fun k hk e=>by have:=HZ.out.2 k hk;omega),hr6.2⟩;have HD7:=ah hd7;have Ju:=ah SX;have HZ2:=ah hz2;clear hr hd6 hk6 hz1 hr6 hkz hz2 hd7 SX HDA HRA HZ0;go_wp2_with fail;clear z0 S9;refine(oU _ g s ra 8 HD7.out.rd hs (by decide)).mono ?_;intro e w8 hr;obtain⟨rfl,hd8,hk8⟩:=HD7.out.read HO.out hr;rw[HP.out.2]at hd8⊢;dsimp only at hd8⊢;have hz3:=HZ2.out.kept hk8 (fun e=>by have:=HZ.out.1;have:=E7.out z e;omega);have z1:=hz3.cell 1;have RH:=hz3.frozen 1;simp only[lF0,List.getElem?_cons_zero,List.getElem?_cons_succ]at z1;have NV:=yc Ju.out hk8 E7.out;have hkz:Kept (fun k=>k=z) w8 (w8.setCell ⟨z,1,none⟩ (.string v1)):=(Kept.refl _ w8).put (.inl rfl);have WH:Has (w8.setCell ⟨z,1,none⟩ (.string v1)) z 84 #[.string k1,.string v1]:=Has.aQ hz3 rfl;have BO:=WH.cell 0;have BP:=WH.cell 1;simp only[lF0,List.getElem?_cons_zero,List.getElem?_cons_succ]at BO BP;have hd9:=hd8.far HO.out HZ.out.1 hkz;have TA:bV 84 2 (l8+1) (w8.setCell ⟨z,1,none⟩ (.string v1)) A l.length cc (bI l):=⟨aP NV.1 hkz (fun k hk e=>by have:=HZ.out.2 k hk;omega),NV.2⟩;have x1:(w8.setCell ⟨z,1,none⟩ (.string v1)).cell? ⟨l8,21,none⟩=some (.slice A l.length cc):=hd9.h8.cell 21;have HD9:=ah hd9;have Ei:=ah TA;clear hr hd8 hk8 hz3 NV hkz WH hd9 TA HD7 Ju HZ2;have kY:Hid (l.length+1<=maxLen):=ah (by have:=wX.out;have:=eH.out;unfold maxLen;omega);have kR:Hid ((l.length+1)*32<=140737488355328):=ah (by have:=wX.out;have:=eH.out;omega);have oq:=wX.out;go_wp2_with (at_builtin;refine bH Jn (.tmp 138) (.tmp 140) rfl rfl (Value.slice A l.length cc) rfl (aP Ei.out.1 (F:=aj) (by(repeat'(first|(with_reducible first|exact ay|apply aA|apply aB|apply aC|apply aF)|(right;simp;done)))) (fun _ _ x=>x)) 1 rfl (Src.kW (t:=84) (size:=2) (m:=1) (cs:=#[.string k1,.string v1]) (by(repeat (with_reducible first|exact Has.dQ _ _ _ (by simp)|apply Has.drew|apply Has.drewN|apply Has.alloc|(apply Has.past<;>(try omega))))) rfl) (by intro u hu;simp at hu;rcases hu with rfl|rfl<;>rfl) kY.out kR.out ?_;intro A6 c6 w10 ji fJ ha6;obtain⟨h6,hs6⟩:=aaa (z:=⟨k1,v1⟩) HO.out HD9.out Ei.out (by(repeat'(first|(with_reducible first|exact ay|apply aA|apply aB|apply aC|apply aF)|(right;simp;done)))) ji fJ ha6;have Tf:w10.cell? ⟨l8,21,none⟩=some (.slice A l.length cc):=h6.cell 21;have Ti:=h6.frozen 21;have qH:=ah hs6;clear ji fJ ha6 h6 hs6);go_roundw
  case rel=>exact⟨i+1,A6,c6,by omega,by go_num,(fun e=>absurd e (by omega)),by rw[jT.out];simpa using qH.out.2,by rw[jT.out];exact qH.out.1⟩
  case measure=>simp[intOf];omega

/- Part 37. -/
import Derived.Test.YtgbigpdiacjbgaaGreatKP35
set_option linter.unusedSimpArgs false
set_option linter.unusedVariables false
set_option maxHeartbeats 32000000
set_option maxRecDepth 100000
namespace Go.Proofs.YtgbigpdiacjbgaaGreat
open Go.RowKit
namespace Rm
open bg Ops fG eP MO Vn bJ qh iI Go.Proofs.YtgbigpdiacjbgaaGreat.Ask
attribute [local go_sem↓] bW cZ
theorem VT(s:ByteArray){c:Nat}(hc:c∈letters)(x:aO)(r:RS)(h:(bG s c x r).2.2=0):(bG s c x r).2.1.2=0:=by
 unfold letters at hc;simp only[List.mem_cons,List.not_mem_nil,or_false]at hc;rcases hc with rfl|rfl|rfl|rfl|rfl|rfl|rfl|rfl|rfl|rfl|rfl|rfl|rfl|rfl|rfl|rfl|rfl
 ·have h1:(qj s r).2=0:=h;show(aN s 65536 r).2.2=0;exact Classical.byContradiction fun z=>by rw[Il z]at h1;exact z h1
 ·exact h
 ·exact h
 ·exact h
 ·exact h
 ·exact h
 ·exact h
 ·exact h
 ·exact h
 ·exact h
 ·have h1:Bv s (aG s 4 r).1 (aG s 4 r).2=0:=h;show(dH s (aG s 4 r).1 (aG s 4 r).2).2.1.2=0;unfold Bv at h1;split at h1
  ·rename_i z;exact absurd h1 z
  ·exact h1
 ·exact h
 ·have h1:(lS s r).2=0:=h;show(aN s 65536 r).2.2=0;exact Classical.byContradiction fun z=>by rw[Io z]at h1;exact z h1
 ·exact h
 ·exact h
 ·exact h
 ·exact h
theorem Ns(k:Int):(partsOf k).Nodup:=by
 unfold partsOf;split
 ·have h:∀l∈J7,l.Nodup:=by decide
  rw[List.getD_eq_getElem?_getD];cases e:J7[k.toNat]? with
  |none=>exact List.nodup_nil
  |some l=>exact h l (lC0 e)
 ·exact List.nodup_nil
def Ej(l:List Nat)(x:aO):Prop:=(69∈l->x.eA=none/\x.ec=0/\x.es=[])/\(83∈l->x.sA=none/\x.sc=0/\x.ss=[])/\(82∈l->x.pA=none/\x.pc=0/\x.ps=[])
theorem Ej.next{l:List Nat}{i c:Nat}{x x':aO}(hn:l.Nodup)(hc:l[i]? =some c)(h:Ej (l.drop i) x)(hk:pF c x x'):Ej (l.drop (i+1)) x':=by
 have hd:l.drop i=c::l.drop (i+1):=bg.drop_cons hc;have hnd:(c::l.drop (i+1)).Nodup:=by rw[<-hd];exact hn.sublist (List.drop_sublist i l)
 have hni:c∉l.drop (i+1):=(List.nodup_cons.1 hnd).1;rw[hd]at h;obtain⟨k1,k2,k3⟩:=hk;refine⟨fun hm=> ?_,fun hm=> ?_,fun hm=> ?_⟩
 ·rcases k1 with rfl|⟨a,b,d⟩
  ·exact absurd hm hni
  ·rw[a,b,d];exact h.1 (List.mem_cons_of_mem _ hm)
 ·rcases k2 with rfl|⟨a,b,d⟩
  ·exact absurd hm hni
  ·rw[a,b,d];exact h.2.1 (List.mem_cons_of_mem _ hm)
 ·rcases k3 with rfl|⟨a,b,d⟩
  ·exact absurd hm hni
  ·rw[a,b,d];exact h.2.2 (List.mem_cons_of_mem _ hm)
section
variable{w W W':World}{s:ByteArray}{g y l5:Nat}{m x x':aO}{r r':RS}{v:Value}{e:Ending}
theorem aag{B:Nat}(h:fB w g s r)(hs:s.size<=maxLen)(m:aO)(hx:dF w B m)(hB:g<B)(hBw:B<=w.heap.size){l:List Nat}{i c:Nat}(hc:l[i]? =some c)(hcl:c∈letters)(hf:Ej (l.drop i) m):Calls Tryz.prog 38 #[.pointer (some ⟨g,0,none⟩),aK m,.int .u8 ((c:Nat):Int)] w (gu w s g B c m r):=by
 have hm:c∈l.drop i:=by rw[bg.drop_cons hc];exact List.mem_cons_self ..
 unfold letters at hcl;simp only[List.mem_cons,List.not_mem_nil,or_false]at hcl;rcases hcl with rfl|rfl|rfl|rfl|rfl|rfl|rfl|rfl|rfl|rfl|rfl|rfl|rfl|rfl|rfl|rfl|rfl
 ·exact EI (.inl rfl) h m hx hB hBw (fun W a b d=>aaV a hs m b hB d)
 ·exact aaU h hs m hx hB
 ·exact ZR h hs m hx hB
 ·exact ZS h hs m hx hB
 ·exact ZZ h hs m hx hB
 ·exact ZY h hs m hx hB
 ·exact ZU h hs m hx hB
 ·exact ZV h hs m hx hB
 ·exact ZW h hs m hx hB
 ·exact ZT h hs m hx hB
 ·exact EI (.inr (.inr (.inl rfl))) h m hx hB hBw (fun W a b d=>aaZ a hs m b hB d (hf.1 hm))
 ·exact EI (.inr (.inr (.inr (.inl rfl)))) h m hx hB hBw (fun W a b d=>aaX a hs m b hB d (hf.2.1 hm))
 ·exact EI (.inr (.inl rfl)) h m hx hB hBw (fun W a b d=>aaW a hs m b hB d)
 ·exact ZX h hs m hx hB
 ·exact Z4 h hs m hx hB
 ·exact Z5 h hs m hx hB
 ·exact EI (.inr (.inr (.inr (.inr rfl)))) h m hx hB hBw (fun W a b d=>aaY a hs m b hB d (hf.2.2 hm))
structure O9(w:World)(s:ByteArray)(g y l5:Nat)(W:World)(x:aO)(r:RS):Prop where
 rd:fB W g s r
 hy:Has W y 63 (au zM).toArray
 h5:Has W l5 63 (au x).toArray
 at':dF W (l5+1) x
 k:Kept aj w W
structure Oy(w:World)(g y l5:Nat):Prop where
 wy:w.heap.size<=y
 yg:y<g
 g5:g<l5
theorem O9.quiet(h:O9 w s g y l5 W x r)(hk:Kept aj W W'):O9 w s g y l5 W' x r:=
 ⟨h.rd.kept hk (fun z=>z),h.hy.kept hk (fun z=>z),h.h5.kept hk (fun z=>z),h.at'.kept hk (fun _ z=>z.elim),h.k.then hk⟩
theorem O9.read(o:Oy w g y l5)(h:O9 w s g y l5 W x r)(hr:AX W g s v r' e W'):e=.returned v/\O9 w s g y l5 W' x r':=by obtain⟨h1,h2,h3⟩:=hr;have a:=o.yg;have b:=o.g5;have c:=o.wy;exact⟨h1,⟨h2,h.hy.kept h3 (by omega),h.h5.kept h3 (by omega),h.at'.kept h3 (fun k hk=>by omega),h.k.trans h3 (fun k hk=> .inr (by omega))⟩⟩
end
theorem VU{wr W w5:World}{g B z:Nat}{x m':aO}(hz:Has W z 63 fH)(hzw:wr.heap.size<=z)(hg:g<wr.heap.size)(hx:dF wr B x)(hb:dF w5 B m')(hk:Kept (fun k=>k=g) W w5)(k1:∀k,rowB m' k->rowB x k\/W.heap.size<=k):∃W6,(jV ⟨z,0,none⟩ (.agg (au m').toArray)).run Tryz.prog w5=.ok () W6/\Has W6 z 63 (au m').toArray/\dF W6 B m'/\Kept (fun k=>wr.heap.size<=k) w5 W6:=by
 have zc:=hz.kept hk (by omega);obtain⟨W6,h1,h2,h3⟩:=jF zc rfl m';refine⟨W6,h1,h2,Xe hb h3 (fun k hk hr=> ?_),h3.mono (fun k hk=>by omega)⟩;have hl:=hz.lt;rcases k1 k hr with y|y
 ·have:=Xf hx y;omega
 ·omega
theorem aa0{wr w5:World}{B:Nat}{m':aO}(hb:dF w5 B m'):∃Wz W6,w5.alloc (.cells fH 63)=Wz/\(jV ⟨w5.heap.size,0,none⟩ (.agg (au m').toArray)).run Tryz.prog Wz=.ok () W6/\Has W6 w5.heap.size 63 (au m').toArray/\dF W6 B m'/\Kept (fun k=>wr.heap.size<=k) w5 W6/\Kept aj w5 Wz:=by obtain⟨Wz,W6,h1,h2,h3,h4⟩:=kK w5 m';exact⟨Wz,W6,h1,h2,h3,hb.kept h4 (fun _ z=>z.elim),h4.mono (fun _ z=>z.elim),by rw[<-h1];(repeat'(first|(with_reducible first|exact ay|apply aA|apply aB|apply aC|apply aF)|(right;simp;done)))⟩
attribute [local go_sem] ni
theorem qA(w:World)(s:ByteArray)(hs:s.size<=maxLen):Calls Tryz.prog 17 #[.string s] w (lU w s):=by
 obtain⟨W0,hW0⟩:∃W0,w.alloc (.cells (au zM).toArray 63)=W0:=⟨_,rfl⟩;obtain⟨W1,hW1⟩:∃W1,W0.alloc (.cells #[.string s,.int .i64 0,.int .i64 0] 91)=W1:=⟨_,rfl⟩;obtain⟨Wz,W4,gY,fP,hb4,hk4⟩:=kK W1 zM;have hk0:Kept aj w W0:=by rw[<-hW0];(repeat'(first|(with_reducible first|exact ay|apply aA|apply aB|apply aC|apply aF)|(right;simp;done)))
 have hk1:Kept aj W0 W1:=by rw[<-hW1];(repeat'(first|(with_reducible first|exact ay|apply aA|apply aB|apply aC|apply aF)|(right;simp;done)))
 have hy0:Has W0 w.heap.size 63 (au zM).toArray:=by rw[<-hW0];exact Has.new _ _ _
 have hr1:fB W1 W0.heap.size s (0,0):=by rw[<-hW1];exact⟨Has.new _ _ _,Nat.zero_le _⟩
 have ho:Oy w w.heap.size W0.heap.size W1.heap.size\/True:=.inr trivial;have hod:Oy w W0.heap.size w.heap.size W1.heap.size:=⟨Nat.le_refl _,hy0.lt,hr1.1.lt⟩;have h9:O9 w s W0.heap.size w.heap.size W1.heap.size W4 zM (0,0):=⟨hr1.kept hk4 (fun z=>z),(hy0.kept hk1 (fun z=>z)).kept hk4 (fun z=>z),hb4,dF.zero _ _ 0,(hk0.then hk1).then hk4⟩;clear ho;have hnum:=jK W4 W0.heap.size s (0,0) 15 h9.rd hs (by decide);have FU:=jG s 15 (0,0);have hno:=fun h=>N7 (s:=s) (most:=15) (r:=(0,0)) h;have hfin:∀W' x er,ofM s=(strip x,er)->dF W' w.heap.size x->Kept aj w W'->lU w s (.returned (.tuple #[aK x,.int .i64 er])) W':=fun W' x er e1 hx hk=>⟨x,by rw[e1],by rw[e1],hx,hk⟩
 have CQ:ofM s=if(aG s 15 (0,0)).2.2≠0 then (zM,(aG s 15 (0,0)).2.2)
   else if isKind (aG s 15 (0,0)).1=false then (zM,11)
   else if(dR s (partsOf (aG s 15 (0,0)).1) {zM with k:=(aG s 15 (0,0)).1} (aG s 15 (0,0)).2).2.2≠0 then (zM,(dR s (partsOf (aG s 15 (0,0)).1) {zM with k:=(aG s 15 (0,0)).1} (aG s 15 (0,0)).2).2.2)
   else if iJ s (dR s (partsOf (aG s 15 (0,0)).1) {zM with k:=(aG s 15 (0,0)).1} (aG s 15 (0,0)).2).2.1≠0 then (zM,iJ s (dR s (partsOf (aG s 15 (0,0)).1) {zM with k:=(aG s 15 (0,0)).1} (aG s 15 (0,0)).2).2.1)
   else if dP (dR s (partsOf (aG s 15 (0,0)).1) {zM with k:=(aG s 15 (0,0)).1} (aG s 15 (0,0)).2).1≠0 then (zM,dP (dR s (partsOf (aG s 15 (0,0)).1) {zM with k:=(aG s 15 (0,0)).1} (aG s 15 (0,0)).2).1)
   else((dR s (partsOf (aG s 15 (0,0)).1) {zM with k:=(aG s 15 (0,0)).1} (aG s 15 (0,0)).2).1,0):=rfl
 obtain⟨q,hq⟩:∃q,aG s 15 (0,0)=q:=⟨_,rfl⟩;rw[hq]at CQ hnum FU hno;obtain⟨n,a1,er⟩:=q;dsimp only at CQ hnum FU hno;obtain⟨y,hy⟩:∃y,w.heap.size=y:=⟨_,rfl⟩;obtain⟨g,hg⟩:∃g,W0.heap.size=g:=⟨_,rfl⟩;obtain⟨l5,hl5⟩:∃l5,W1.heap.size=l5:=⟨_,rfl⟩;rw[hy,hg,hl5]at hod h9;rw[hg]at hnum;rw[hl5]at fP;have hwy:=hy;have hbad:∀W x' r',O9 w s g y l5 W x' r'->∃W6,(jV ⟨y,0,none⟩ (.agg (Ee 0))).run Tryz.prog W=.ok () W6/\Has W6 y 63 (au zM).toArray/\Kept aj w W6:=fun W x' r' hm=>by obtain⟨W6,h1,h2,h3⟩:=CP hm.hy zM;exact⟨W6,h1,h2,hm.k.trans h3 (fun i hi=> .inr (by have:=hod.wy;omega))⟩
 have hgood:∀W x' r',O9 w s g y l5 W x' r'->∃W6,(jV ⟨y,0,none⟩ (.agg (au x').toArray)).run Tryz.prog W=.ok () W6/\Has W6 y 63 (au x').toArray/\Kept aj w W6/\dF W6 w.heap.size x':=fun W x' r' hm=>by obtain⟨W6,h1,h2,h3⟩:=CP hm.hy x';exact⟨W6,h1,h2,hm.k.trans h3 (fun i hi=> .inr (by have:=hod.wy;omega)),(hm.at'.kept h3 (fun k hk=>by have:=hod.yg;have:=hod.g5;omega)).mono (by have:=hod.yg;have:=hod.g5;have:=hod.wy;omega)⟩
 have uq:=ah hnum;have bF:=ah hfin;have Bq:=ah CQ;have HO:=ah hod;have H9:=ah h9;have VO:=ah FU;have oP:=ah hno;have HBAD:=ah hbad;have zB:=ah hgood;generalize lU w s=Q at bF⊢;unfold au zM at hW0 fP;dsimp only[List.length_nil]at hW0 fP;clear hnum hfin CQ hod h9 FU hno hbad hgood hk0 hk1 hy0 hr1 hb4 hk4 hq hwy;go_enter Tryz.func17,Tryz.ntmps17;go_wp2_with fail;clear hW0 hW1 gY fP hy hg hl5;refine uq.out.mono ?_;intro e w4 hr;obtain⟨rfl,h9⟩:=H9.out.read HO.out hr;have c0:w4.cell? ⟨l5,0,none⟩=some (.int .i64 0):=h9.h5.cell 0;have f0:=h9.h5.frozen 0;have hkl:Kept (fun k=>k=l5) w4 (w4.setCell ⟨l5,0,none⟩ (.int .i64 (n:Int))):=(Kept.refl _ w4).put (.inl rfl);have TC:O9 w s g y l5 (w4.setCell ⟨l5,0,none⟩ (.int .i64 (n:Int))) {zM with k:=(n:Int)} (a1,er):=by have a:=HO.out.yg;have b:=HO.out.g5;have c:=HO.out.wy;exact⟨h9.rd.kept hkl (by omega),h9.hy.kept hkl (by omega),Has.aQ h9.h5 rfl,dF.zero _ _ _,h9.k.trans hkl (fun k hk=> .inr (by omega))⟩
 obtain⟨W5,sG⟩:∃W5,w4.setCell ⟨l5,0,none⟩ (.int .i64 (n:Int))=W5:=⟨_,rfl⟩;rw[sG]at TC;have qe:W5.cell? ⟨g,2,none⟩=some (.int .i64 er):=TC.rd.1.cell 2;have q0:W5.cell? ⟨l5,0,none⟩=some (.int .i64 (n:Int)):=TC.h5.cell 0;have TD:=ah TC;clear hr h9 hkl TC uq H9;by_cases he:er=0;rotate_left
 ·have he2:(er==0)=false:=by simpa using he
  have hn0:=oP.out he;subst hn0;change w4.setCell ⟨l5,0,none⟩ (.int .i64 0)=W5 at sG;change W5.cell? ⟨l5,0,none⟩=some (.int .i64 0)at q0;have hof:=Bq.out;rw[if_pos he]at hof;have hpa:=X8 W5;have dw:=ah hof;have TE:=ah hpa;have HE:=ah he;clear hof hpa he Bq oP VO;go_wp2_with fail;clear sG c0 f0 qe q0;refine TE.out.mono ?_;rintro e w6 ⟨rfl,hk6⟩;have TF:=ah (TD.out.quiet hk6);clear hk6 TD;go_wp2_with fail;go_loopw [7] (fun v7 wr=>v7=.int .i64 0/\O9 w s g y l5 wr {zM with k:=((0:Nat):Int)} (a1,er)) (fun v7 _=>0)
  case atStart=>exact⟨rfl,TF.out⟩
  case round=>
   obtain⟨rfl,h97⟩:=hrel;clear TF;have qe:wr.cell? ⟨g,2,none⟩=some (.int .i64 er):=h97.rd.1.cell 2;have hend:=og wr g s (a1,er) h97.rd hs;have hre:iJ s (a1,er)=er:=if_pos HE.out;rw[hre]at hend;have aX:=ah hend;have Dl:=ah h97;clear hend hre h97;go_wp2_with fail;refine aX.out.mono ?_;rintro e w8 ⟨rfl,hk8⟩;obtain⟨W6,hst,kP,aZ⟩:=HBAD.out w8 _ _ (Dl.out.quiet hk8);have BQ:=ah kP;have eu:=ah aZ;have he3:(er !=0)=true:=by have:=HE.out;simpa using this
   clear kP aZ hk8 qe;go_wp2_with fail;refine bodyPost_ret (aU rfl _ _ y _ rfl (aH _ _ _ BQ.out)) rfl ?_;exact bF.out W6 zM er dw.out (dF.zero _ _ 0) eu.out
 subst he;have hof:=Bq.out;rw[if_neg (by simp)]at hof;have gK:=ah hof;clear hof Bq oP;by_cases hn0:n=0
 ·subst hn0;change w4.setCell ⟨l5,0,none⟩ (.int .i64 0)=W5 at sG;change W5.cell? ⟨l5,0,none⟩=some (.int .i64 0)at q0;have hof:=gK.out;rw[if_pos (by decide)]at hof;have dw:=ah hof;clear hof gK;obtain⟨W6,hst,kP,aZ⟩:=HBAD.out W5 _ _ TD.out;have BQ:=ah kP;have eu:=ah aZ;clear kP aZ;go_wp2_with fail;refine bodyPost_ret (aU rfl _ _ y _ rfl (aH _ _ _ BQ.out)) rfl ?_;exact bF.out W6 zM 11 dw.out (dF.zero _ _ 0) eu.out
 have hkd:isKind (n:Int)=true:=by have:=VO.out;unfold isKind;apply decide_eq_true;omega
 have hn1:((n:Int)==0)=false:=by simpa using hn0
 have hpa:=Lp W5 (k:=(n:Int)) hkd;have hof:=gK.out;rw[if_neg (by rw[hkd];decide)]at hof;have hlet:=rP (n:Int);have hnd:=Ns (n:Int);have kJ:=pV (n:Int);obtain⟨l,hl⟩:∃l,partsOf (n:Int)=l:=⟨_,rfl⟩;rw[hl]at hpa hof hlet kJ hnd;have hsz:=wS l;have hsm:∀c∈l,c<256:=fun c hc=>by have:=hlet c hc;unfold letters at this;simp only[List.mem_cons,List.not_mem_nil,or_false]at this;omega
 have hix0:∀(i c:Nat),l[i]? =some c->∀W,(Instr.index 9 (.string (lets l)) (.int .i64 i)).run Tryz.prog W=.ok (.int .u8 c) W:=fun i c hc W=>by obtain⟨hi,e⟩:=Cm hsm hc;rw[run_index_string W 9 (lets l) .i64 i (by rfl),dif_pos ⟨by omega,by omega⟩];simp only[Int.toNat_natCast,e]
 obtain⟨p,hp⟩:∃p,lets l=p:=⟨_,rfl⟩;rw[hp]at hpa hsz;simp only[hp]at hix0;have dw:=ah hof;have TE:=ah hpa;have Bl:=ah hlet;have Jh:=ah hnd;have sO:=ah kJ;have Xg:=ah hkd;have sH:=ah hsz;have KL:=ah hix0;clear hof hpa gK hkd hlet hnd kJ hl hsz hsm hix0 hp;go_wp2_with fail;clear sG c0 f0 qe q0 hn1 hn0;refine TE.out.mono ?_;rintro e w6 ⟨rfl,hk6⟩;have TF:=ah (TD.out.quiet hk6);clear hk6 TD;go_wp2_with fail;go_loopw [7] (fun v7 wr=>∃(i:Nat) (x':aO) (r':RS),i<=l.length/\v7=.int .i64 i/\O9 w s g y l5 wr x' r'/\Ej (l.drop i) x'/\((r'.2=0/\x'.k=n/\dR s (l.take i) {zM with k:=(n:Int)} (a1,0)=(strip x',r',0))\/(r'.2≠0/\(dR s l {zM with k:=(n:Int)} (a1,0)).2.2=r'.2))) (fun v7 _=>l.length-(intOf v7).toNat)
 case atStart=>exact⟨0,_,_,Nat.zero_le _,rfl,TF.out,⟨fun _=>⟨rfl,rfl,rfl⟩,fun _=>⟨rfl,rfl,rfl⟩,fun _=>⟨rfl,rfl,rfl⟩⟩,.inl ⟨rfl,rfl,by rw[List.take_zero];rfl⟩⟩
 case round=>
  obtain⟨i,x',r',hi,rfl,h97,hfr,hst⟩:=hrel;clear TF;have hsz:=sH.out;have qe:wr.cell? ⟨g,2,none⟩=some (.int .i64 r'.2):=h97.rd.1.cell 2;have hcase:(i<l.length/\r'.2=0/\x'.k=n/\dR s (l.take i) {zM with k:=(n:Int)} (a1,0)=(strip x',r',0))\/((i=l.length\/r'.2≠0)/\(iJ s r'≠0->ofM s=(zM,iJ s r'))/\(iJ s r'=0->x'.k=n/\ofM s=if dP x'≠0 then (zM,dP x')else(strip x',0))):=by
   have yh:=dw.out;rcases hst with⟨h1,hxk,h2⟩|⟨h1,h2⟩
   ·by_cases hil:i<l.length
    ·exact .inl ⟨hil,h1,hxk,h2⟩
    ·have hie:i=l.length:=by omega
     rw[hie,List.take_length]at h2;rw[h2]at yh;dsimp only at yh;rw[if_neg (by simp)]at yh;refine .inr ⟨.inl hie,fun h=> ?_,fun h=> ?_⟩
     ·rw[if_pos h]at yh;exact yh
     ·rw[if_neg (fun z=>z h),lT]at yh;exact⟨hxk,yh⟩
   ·rw[if_pos (by rw[h2];exact h1),h2]at yh;have hre:iJ s r'=r'.2:=if_pos h1;exact .inr ⟨.inr h1,fun _=>by rw[hre];exact yh,fun h=>absurd (hre.symm.trans h) h1⟩
  clear hst;rcases hcase with⟨hil,h1,hxk,h2⟩|⟨hout,hx1,hx2⟩
  ·obtain⟨a2,e2⟩:=r';dsimp only at h1 qe;subst h1;obtain⟨c,hc⟩:∃c,l[i]? =some c:=⟨_,lB0 hil⟩;have hcm:=lC0 hc;have g1:(i:Int)<(p.size:Int):=by omega
   have hix:=KL.out i c hc;have h5w:l5+1<=wr.heap.size:=h97.h5.lt;have hrd:=fun W (hW:Kept aj wr W)=>aag (h97.quiet hW).rd hs x' (h97.quiet hW).at' (by have:=HO.out.g5;omega) (Nat.le_trans h5w hW.size) hc (Bl.out c hcm) hfr;unfold gu at hrd;have hS:∀W,Kept (fun k=>k=g) wr W->fD W ⟨l5,0,none⟩/\eX W ⟨l5,0,none⟩=(au x').toArray:=fun W hW=>dD (h97.h5.kept hW (by have:=HO.out.g5;omega));have hci:l[i]=c:=by rw[lB0 hil]at hc;exact Option.some.inj hc
   have htk:l.take (i+1)=l.take i++[c]:=by rw[List.take_succ_eq_append_getElem hil,hci]
   have hnext:dR s (l.take (i+1)) {zM with k:=(n:Int)} (a1,0)=if(bG s c (strip x') (a2,0)).2.2≠0 then bG s c (strip x') (a2,0)else((bG s c (strip x') (a2,0)).1,(bG s c (strip x') (a2,0)).2.1,0):=by rw[htk,AY,h2,if_neg (by simp),Js]
   have hall:∀z,dR s (l.take (i+1)) {zM with k:=(n:Int)} (a1,0)=z->z.2.2≠0->dR s l {zM with k:=(n:Int)} (a1,0)=z:=fun z e1 e2=>by have h9:=AY s (l.take (i+1)) (l.drop (i+1)) {zM with k:=(n:Int)} (a1,0);rw[List.take_append_drop,e1,if_pos e2]at h9;exact h9
   have aah:=VT s (Bl.out c hcm) (strip x') (a2,0);have hkk:∀x2,strip x2=(bG s c (strip x') (a2,0)).1->x2.k=n:=fun x2 e=>by have h9:=congrArg aO.k e;rw[Yg]at h9;exact h9.trans hxk
   obtain⟨cs,hcs⟩:∃cs,(au x').toArray=cs:=⟨_,rfl⟩;unfold aK at hrd;rw[hcs]at hrd hS;have fV:=ah hrd;have HS:=ah hS;have HC:=ah hc;have QV:=ah hfr;have jT:=ah hnext;have Hz:=ah hall;have HKK:=ah hkk;have abz:=ah aah;have UR:=ah (And.intro hil hi);have Dl:=ah h97;have U4:=ah hix;have Xh:=ah (show g<wr.heap.size from Dl.out.rd.1.lt);obtain⟨s1,s2⟩:=hS wr (Kept.refl _ _);clear hrd hS hc hfr hnext hall hkk aah hcm hci htk h2 hcs h97 h5w hxk;go_wp2_with fail;clear qe
   go_region_held3 (fun W=>fD W ⟨l5,0,none⟩/\eX W ⟨l5,0,none⟩=cs) (first|with_reducible exact y6|with_reducible exact y7|with_reducible exact y5|with_reducible exact⟨s1,s2⟩|exact HS.out _ (Kept.Lh (by(repeat'(first|(with_reducible first|exact ay|apply aA|apply aB|apply aC|apply aF)|(right;simp;done)))))|with_reducible exact hix _|exact HS.out _ (dK.out.trans (by(repeat'(first|(with_reducible first|exact ay|apply aA|apply aB|apply aC|apply aF)|(right;simp;done)))) (fun _ z=>z.elim)))
    (first|(go_at_call 38;refine(fV.out _ (by(repeat'(first|(with_reducible first|exact ay|apply aA|apply aB|apply aC|apply aF)|(right;simp;done))))).mono ?_;rintro e w5 ⟨m',er,r2,rfl,ha,hb,hk,k1,kl,k2,k3⟩;have hk5:Kept (fun k=>k=g) wr w5:=(Kept.trans (F:=fun k=>k=g) (Kept.Lh (by(repeat'(first|(with_reducible first|exact ay|apply aA|apply aB|apply aC|apply aF)|(right;simp;done))))) hk (fun _ z=> .inl z));(first
      |(have a9:=VU (Has.new wr 63 fH) (Nat.le_refl _) Xh.out Dl.out.at' hb hk k1;obtain⟨W6,hst,hb6,hx6,hk6⟩:=a9)
      |(have a9:=VU (Has.new wr.drew 63 fH) (Nat.le_refl _) Xh.out Dl.out.at' hb hk k1;obtain⟨W6,hst,hb6,hx6,hk6⟩:=a9)
      |(have a9:=VU (Has.drew (Has.new wr 63 fH)) (Nat.le_refl _) Xh.out Dl.out.at' hb hk k1;obtain⟨W6,hst,hb6,hx6,hk6⟩:=a9)
      |(obtain⟨Wz,W6,gY,hst,hb6,hx6,hk6,hkz⟩:=aa0 (wr:=wr) hb;have y7:=HS.out Wz (hk5.trans hkz (fun _ z=>z.elim));clear hkz));have jS:=ah hb6;have HX6:=ah hx6;have y5:=HS.out w5 hk5;have VW:=Kept.trans hk5 hk6 (fun k hk=> .inr hk);have y6:=HS.out W6 VW;have VX:=ah VW;have HA5:=ah (And.intro ha hk6);have HQ:=ah (And.intro kl (And.intro k2 k3));clear ha hb hk k1 kl k2 k3 hk5 hb6 hx6 hk6 VW))
   all_goals
    have VY:fB W6 g s r2:=HA5.out.1.kept HA5.out.2 (by have:=Xh.out;omega)
    have hwg:w.heap.size<=g:=by have:=HO.out.wy;have:=HO.out.yg;omega
    have h5w:l5<wr.heap.size:=Dl.out.h5.lt
    have jR:Kept aj w W6:=Dl.out.k.trans VX.out (fun k hk=> .inr (by omega))
    have kP:=Dl.out.hy.kept VX.out (by have:=HO.out.yg;omega)
    have h56:=Dl.out.h5.kept VX.out (by have:=HO.out.g5;omega)
    obtain⟨kl,k2,k3⟩:=HQ.out
    have hok:=abz.out
    have hnx:=jT.out
    have hal:=Hz.out
    have hkk:=HKK.out
    obtain⟨q,hq⟩:∃q,bG s c (strip x') (a2,0)=q:=⟨_,rfl⟩
    rw[hq]at k2 k3 hok hnx
    simp only[hq]at hkk
    obtain⟨qx,qr,qe⟩:=q
    dsimp only at k2 k3 hok hnx hkk
    by_cases he:er=0
    ·subst he;obtain⟨W7,acs,hb7,aZ⟩:=jF h56 rfl m';have aai:O9 w s g y l5 W7 m' r2:=⟨VY.kept aZ (by have:=HO.out.g5;omega),kP.kept aZ (by have:=HO.out.yg;have:=HO.out.g5;omega),hb7,HX6.out.kept aZ (fun k hk=>by omega),jR.trans aZ (fun k hk=> .inr (by have:=HO.out.g5;omega))⟩;have hfr:=QV.out.next Jh.out HC.out kl;have hst2:(r2.2=0/\m'.k=n/\dR s (l.take (i+1)) {zM with k:=(n:Int)} (a1,0)=(strip m',r2,0))\/(r2.2≠0/\(dR s l {zM with k:=(n:Int)} (a1,0)).2.2=r2.2):=by
      by_cases hz:qe=0
      ·obtain⟨_,e1,e2⟩:=k2 hz;exact .inl ⟨by rw[e1];exact hok hz,hkk _ e2,by rw[hnx,if_neg (fun z=>z hz),e1,e2]⟩
      ·have e1:r2.2=qe:=by
        rcases k3 hz with e|⟨_,e⟩
        ·exact absurd e.symm hz
        ·exact e
       rw[if_pos hz]at hnx;have e2:=hal _ hnx hz;exact .inr ⟨by rw[e1];exact hz,by rw[e2,e1]⟩
     have hlz:=aH W6 _ _ jS.out;have H7:=ah aai;have abA:=ah hfr;have abB:=ah hst2;have kJ:=sO.out;have hin:=UR.out;clear VY hwg h5w jR kP h56 kl k2 k3 hok hnx hal hkk hq hb7 aZ aai hfr hst2;go_wp2;go_roundw
     case rel=>exact⟨i+1,m',r2,by omega,by go_num,H7.out,abA.out,abB.out⟩
     case measure=>simp[intOf];omega
    ·have he2:(er !=0)=true:=by simpa using he
     have hqe:qe=er:=by
      by_cases hz:qe=0
      ·exact absurd (k2 hz).1 he
      ·rcases k3 hz with e|⟨e,_⟩
       ·exact e.symm
       ·exact absurd e he
     subst hqe;rw[if_pos he]at hnx;have hof:=dw.out;rw[hal _ hnx he]at hof;dsimp only at hof;rw[if_pos he]at hof;obtain⟨W8,abC,AZ,hk8⟩:=CP kP zM;have hend:=bF.out W8 zM qe hof (dF.zero _ _ 0) (jR.trans hk8 (fun k hk=> .inr (by have:=HO.out.wy;omega)));change (jV ⟨y,0,none⟩ (.agg (Ee 0))).run Tryz.prog W6=.ok () W8 at abC;have GX:=ah AZ;have aX:=ah hend;clear VY hwg h5w jR kP h56 kl k2 k3 hok hnx hal hkk hq AZ hk8 hof he hend;go_wp2_with fail;refine bodyPost_ret (aU rfl _ _ y _ rfl (aH _ _ _ GX.out)) rfl ?_;exact aX.out
  ·have hend:=og wr g s r' h97.rd hs;obtain⟨ee,hee⟩:∃ee,iJ s r'=ee:=⟨_,rfl⟩;rw[hee]at hend hx1 hx2;have aX:=ah hend;have Dl:=ah h97;have Ak:=ah hx1;have HX2:=ah hx2;obtain⟨a2,e2⟩:=r';dsimp only at qe hout;have hw:((i:Int)<(p.size:Int)/\(e2==0)=false)\/¬(i:Int)<(p.size:Int):=by
    rcases hout with h|h
    ·exact .inr (by omega)
    ·by_cases hil:(i:Int)<(p.size:Int)
     ·exact .inl ⟨hil,by simpa using h⟩
     ·exact .inr hil
   clear hend h97 hx1 hx2 hee hout hfr;rcases hw with⟨g1,g2⟩|g1
   all_goals
    go_wp2_with fail
    refine aX.out.mono ?_
    rintro e w8 ⟨rfl,hk8⟩
    have N8:=Dl.out.quiet hk8
    by_cases Xi:ee=0
    rotate_left
    ·have he3:(ee !=0)=true:=by simpa using Xi
     obtain⟨W6,hst,kP,aZ⟩:=HBAD.out w8 _ _ N8;have BQ:=ah kP;have HFF:=ah (bF.out W6 zM ee (Ak.out Xi) (dF.zero _ _ 0) aZ);clear kP aZ hk8 N8 Xi qe;go_wp2_with fail;refine bodyPost_ret (aU rfl _ _ y _ rfl (aH _ _ _ BQ.out)) rfl ?_;exact HFF.out
    ·subst Xi;obtain⟨hxk,yh⟩:=HX2.out rfl;have hck:=SY w8 x' N8.at' (by rw[hxk];exact Xg.out);have hfx:∀W,O9 w s g y l5 W x' (a2,e2)->dP x'=0->∃W6,(jV ⟨y,0,none⟩ (.agg (au x').toArray)).run Tryz.prog W=.ok () W6/\Has W6 y 63 (au x').toArray/\Q (.returned (.tuple #[aK x',.int .i64 0])) W6:=fun W hW h0=>by obtain⟨W6,h1,h2,h3,h4⟩:=zB.out W _ _ hW;exact⟨W6,h1,h2,bF.out W6 x' 0 (by rw[yh,if_neg (fun z=>z h0)]) h4 h3⟩
     have hbx:dP x'≠0->ofM s=(zM,dP x'):=fun h0=>by rw[yh,if_pos h0]
     have hlx:=fun W (hW:O9 w s g y l5 W x' (a2,e2))=>aH W l5 x' hW.h5;have N6:=hlx w8 N8;obtain⟨ck,vJ⟩:∃ck,dP x'=ck:=⟨_,rfl⟩;rw[vJ]at hck hbx;simp only[vJ]at hfx;obtain⟨cs,hcs⟩:∃cs,(au x').toArray=cs:=⟨_,rfl⟩;have abD:=ah hcs;unfold aK at hck hfx;rw[hcs]at hck N6;simp only[hcs]at hfx hlx;have jO:=ah hck;have HFX:=ah hfx;have SH:=ah hbx;have HLX:=ah hlx;have H98:=ah N8;clear hck hfx hbx hlx N8 hk8 hxk yh vJ hcs qe;go_wp2_with fail;clear N6;refine jO.out.mono ?_;rintro e w9 ⟨rfl,hk9⟩;have TG:=H98.out.quiet hk9;by_cases h0:ck=0
     ·subst h0;obtain⟨W6,hst,kP,hq⟩:=HFX.out w9 TG rfl;have hl9:=HLX.out w9 TG;have BQ:=ah (show(uH ⟨y,0,none⟩).run Tryz.prog W6=.ok (.agg cs) W6 from by have h9:=kP;rw[<-abD.out]at h9⊢;exact aH _ _ _ h9);have HQF:=ah hq;clear kP hq hk9 TG;go_wp2_with fail;refine bodyPost_ret (aU rfl _ _ y _ rfl BQ.out) rfl ?_;exact HQF.out
     ·have he3:(ck !=0)=true:=by simpa using h0
      obtain⟨W6,hst,kP,aZ⟩:=HBAD.out w9 _ _ TG;have BQ:=ah kP;have HFF:=ah (bF.out W6 zM ck (SH.out h0) (dF.zero _ _ 0) aZ);clear kP aZ hk9 TG h0;go_wp2_with fail;refine bodyPost_ret (aU rfl _ _ y _ rfl (aH _ _ _ BQ.out)) rfl ?_;exact HFF.out

/- Part 32. -/
import Derived.Test.YtgbigpdiacjbgaaGreatKP30
set_option linter.unusedSimpArgs false
set_option linter.unusedVariables false
set_option maxHeartbeats 32000000
set_option maxRecDepth 100000
namespace Go.Proofs.YtgbigpdiacjbgaaGreat
open Go.RowKit
namespace bJ
open bg Ops fG Vn eP qh iI
theorem Ls:Elem Tryz.prog 61 22 1 8:=⟨Tryz.underlying61,⟨_,_,rfl,rfl,rfl,rfl,rfl⟩,by decide⟩
theorem Jq(l:List Int)(v:Int):rH (l++[v])=rH l++[.int .u64 v]:=by unfold rH;rw[List.map_append];rfl
section
variable{w W W':World}{s:ByteArray}{g mb y:Nat}{x x':aO}{r r':RS}{v:Value}{e:Ending}
structure SS(w W:World)(s:ByteArray)(g mb y:Nat)(x:aO)(wr:World)(A:Option Addr)(c:Nat)(l:List Int)(r:RS):Prop where
 rd:iH wr g s r
 hm:Has wr mb 63 (au {x with sA:=A,sc:=c,ss:=l}).toArray
 row:bV 22 1 W.heap.size wr A l.length c (rH l)
 k:Kept (fun k=>k=g\/k=mb) W wr
 ts:∀z∈l,0<=z/\z<=aY
 s0:l=[]->A=none/\c=0
theorem SS.quiet{wr w2:World}{A:Option Addr}{c:Nat}{l:List Int}(h:SS w W s g mb y x wr A c l r)(hk:Kept aj wr w2):SS w W s g mb y x w2 A c l r:=
 ⟨h.rd.kept hk (fun z=>z),h.hm.kept hk (fun z=>z),h.row.kept hk,h.k.trans hk (fun _ z=>z.elim),h.ts,h.s0⟩
theorem SS.read{wr w2:World}{A:Option Addr}{c:Nat}{l:List Int}(o:Od w g mb y)(hW:mb<W.heap.size)(h:SS w W s g mb y x wr A c l r)(hr:zx wr g s v r' e w2):e=.returned v/\SS w W s g mb y x w2 A c l r':=by obtain⟨he,h1,h2⟩:=hr;have a:=o.gm;exact⟨he,h1,h.hm.kept h2 (by omega),⟨aP h.row.1 h2 (fun k hk e=>by have:=h.row.2 k hk;omega),h.row.2⟩,h.k.trans h2 (fun i hi=> .inl (.inl hi)),h.ts,h.s0⟩
theorem SS.push{wr w5 w6:World}{A A1:Option Addr}{c c1:Nat}{l:List Int}{z:Int}(o:Od w g mb y)(hW:mb<W.heap.size)(h:SS w W s g mb y x wr A c l r)(hk:Kept aj wr w5)
  (ho:w6.ownsRow 0 22 1 (.slice A1 (l.length+1) c1) (l.length+1) (rH l++[.int .u64 z])) (hg:w5.grownBy w6 (Value.slice A l.length c).ownBlock) (ha:(Value.slice A1 (l.length+1) c1).ownBlock=(Value.slice A l.length c).ownBlock\/(Value.slice A1 (l.length+1) c1).ownBlock=some w5.heap.size) (hz:0<=z/\z<=aY):
  Has w6 mb 63 (au {x with sA:=A,sc:=c,ss:=l}).toArray/\SS w W s g mb y x (w6.setCell ⟨mb,20,none⟩ (.slice A1 (l.length+1) c1)) A1 c1 (l++[z]) r:=by
 have a:=o.gm;have hk6:Kept (fun k=>(Value.slice A l.length c).ownBlock=some k) wr w6:=Kept.grownBy (Kept.Lh hk) hg (fun k hk=> .inl hk);have hnb:∀k,k<W.heap.size->¬(Value.slice A l.length c).ownBlock=some k:=fun k hk e=>by have:=h.row.2 k e;omega
 have h6:=h.hm.kept hk6 (hnb mb hW);have hks:Kept (fun k=>k=mb) w6 (w6.setCell ⟨mb,20,none⟩ (.slice A1 (l.length+1) c1)):=(Kept.refl _ w6).put (.inl rfl);have hB:W.heap.size<=w5.heap.size:=Nat.le_trans h.k.size hk.size
 have hn:bV 22 1 W.heap.size w6 A1 (l.length+1) c1 (rH l++[.int .u64 z]):=⟨ho,fun k hk'=>by
  rcases ha with e|e
  ·exact h.row.2 k (e.symm.trans hk')
  ·have h9:=e.symm.trans hk';injection h9 with h9;omega⟩
 have hlen:(l++[z]).length=l.length+1:=by simp
 refine⟨h6,⟨(h.rd.kept hk6 (hnb g (by omega))).kept hks (by omega),Has.aQ h6 (by unfold au;dsimp only;rw[hlen];rfl),?_,?_,?_,fun e=>by simp at e⟩⟩
 ·rw[hlen,Jq];exact⟨aP hn.1 hks (fun k hk' e=>by have:=hn.2 k hk';omega),hn.2⟩
 ·exact(h.k.trans hk6 (fun k hk'=> .inr (h.row.2 k hk'))).trans hks (fun k hk'=> .inl (.inr hk'))
 ·intro q hq;rcases List.mem_append.1 hq with hq|hq
  ·exact h.ts q hq
  ·rw[List.mem_singleton.1 hq];exact hz
theorem SS.done{wr:World}{A:Option Addr}{c:Nat}{l:List Int}(o:Od w g mb y)(h0:MS w s g mb y W x r')(h:SS w W s g mb y x wr A c l r)(hl:l.length<=100):MS w s g mb y wr {x with sA:=A,sc:=c,ss:=l} r:=by have a:=o.yg;have b:=o.gm;have hw:mb+1<=W.heap.size:=h0.hm.lt;have hx:=h0.at'.kept h.k (fun k hk=>by omega);refine⟨h.rd,h.hm,h0.hy.kept h.k (by omega),⟨hx.m,hx.mc,hx.mn,hx.ml,hx.o,hx.oc,hx.on,hx.e,hx.ec,hx.en,hx.el,hx.eo,⟨h.row.1,fun k hk=>by have:=h.row.2 k hk;omega⟩,hl,h.ts,hx.p,hx.pc,hx.pn,hx.pl,hx.t,h.s0,hx.pm⟩,h0.k.trans h.k (fun i hi=> .inl hi)⟩
theorem Yf(o:Od w g mb y)(h:MS w s g mb y W x r)(hs:s.size<=maxLen)(h0:x.ss=[]):
  Calls Tryz.prog 60 #[.pointer (some ⟨g,0,none⟩),.pointer (some ⟨mb,0,none⟩),.int .i32 (((83:Nat)):Int)] W (gG w s g mb y 83 x r):=by
 have hnum:=fun W=>fC W mb 83 (by decide) (by decide);have hrd:=oZ W g s r 8 h.rd hs (by decide);have oq:=jG s 8 r;have hmw:mb<W.heap.size:=h.hm.lt;obtain⟨hA0,hc0⟩:=h.at'.s0 h0;have hxe:x={x with sA:=none,sc:=0,ss:=[]}:=by cases x;dsimp only at h0 hA0 hc0;subst h0 hA0 hc0;rfl
 have hp:bG s 83 (strip x) r=({strip x with ss:=x.ss++(bM s (aG s 8 r).1 (aG s 8 r).2).1},(bM s (aG s 8 r).1 (aG s 8 r).2).2,(bM s (aG s 8 r).1 (aG s 8 r).2).2.2):=rfl;rw[h0,List.nil_append]at hp;have hfin:∀W' A c,SS w W s g mb y x W' A c (bM s (aG s 8 r).1 (aG s 8 r).2).1 (bM s (aG s 8 r).1 (aG s 8 r).2).2->gG w s g mb y 83 x r (.returned (.int .i64 (bM s (aG s 8 r).1 (aG s 8 r).2).2.2)) W':=fun W' A c hss=>by refine⟨{x with sA:=A,sc:=c,ss:=(bM s (aG s 8 r).1 (aG s 8 r).2).1},by rw[hp],fun _=>by rw[hp];rfl,by rw[hp];exact hss.done o h (by rw[yA];omega)⟩
 obtain⟨q,hq⟩:∃q,aG s 8 r=q:=⟨_,rfl⟩;rw[hq]at hrd oq;simp only[hq]at hfin;obtain⟨n,r3⟩:=q;dsimp only at hrd oq hfin;have hsw:SS w W s g mb y x W none 0 [] r:=⟨h.rd,by rw[<-hxe];exact h.hm,⟨⟨rfl,.inl ⟨rfl,rfl⟩⟩,fun k hk=>by simp[Value.ownBlock]at hk⟩,Kept.refl _ _,(fun z hz=>by cases hz),fun _=>⟨rfl,rfl⟩⟩;have HN:=ah hnum;have fV:=ah hrd;have HSW:=ah hsw;have HO:=ah o;have bF:=ah hfin;have ZJ:=ah hmw;have wX:=ah oq;clear hnum hrd hsw h hq hp o hfin hxe hA0 hc0 h0 hmw oq;generalize gG w s g mb y 83 x r=Q at bF⊢;go_enter Tryz.func60,Tryz.ntmps60;go_wp2_with fail;refine(HN.out W).mono ?_;rintro e w2 ⟨rfl,rfl⟩;go_wp2_with fail;refine fV.out.mono ?_;intro e w3 hr;obtain⟨rfl,hss⟩:=HSW.out.read HO.out ZJ.out hr;have qI:=ah hss;clear hr hss HSW fV;go_wp2_with fail;go_loopw [63] (fun v63 wr=>∃(i:Nat) (A:Option Addr) (c:Nat),i<=n/\v63=.int .i64 i/\SS w W s g mb y x wr A c (bM s i r3).1 (bM s i r3).2) (fun v63 _=>n-(intOf v63).toNat)
 case atStart=>exact⟨0,none,0,Nat.zero_le _,rfl,qI.out⟩
 case round=>
  obtain⟨i,A,c,hi,rfl,hss⟩:=hrel;clear qI;by_cases hin:i<n
  ·have hlen:=yA s r3 i;have hstep:bM s (i+1) r3=((bM s i r3).1++[((bD s (bM s i r3).2).1:Int)],(bD s (bM s i r3).2).2):=rfl;have hts:=wV s (bM s i r3).2;obtain⟨l,hl⟩:∃l,(bM s i r3).1=l:=⟨_,rfl⟩;obtain⟨r4,hr4⟩:∃r4,(bM s i r3).2=r4:=⟨_,rfl⟩;rw[hl]at hlen;rw[hl,hr4]at hss hstep;rw[hr4]at hts;have hbig:∀W1,Kept aj wr W1->Calls Tryz.prog 102 #[.pointer (some ⟨g,0,none⟩)] W1 fun e w5=>e=.returned (.int .u64 (bD s r4).1)/\SS w W s g mb y x w5 A c l (bD s r4).2:=fun W1 hW=>(Aa W1 g s r4 (hss.quiet hW).rd hs).mono fun e w5 hr=>(hss.quiet hW).read HO.out ZJ.out hr;obtain⟨q,hq⟩:∃q,bD s r4=q:=⟨_,rfl⟩;rw[hq]at hstep hts;simp only[hq]at hbig;obtain⟨nb,r5⟩:=q;dsimp only at hstep hts hbig;have m0:wr.cell? ⟨mb,20,none⟩=some (.slice A l.length c):=hss.hm.cell 20;have f0:=hss.hm.frozen 20;rw[hlen]at m0;have hm0:∀W1,Kept aj wr W1->W1.cell? ⟨mb,20,none⟩=some (.slice A i c):=fun W1 hW=>by rw[<-hlen];exact(hss.quiet hW).hm.cell 20
   have uM:=ah hstep;have Ai:=ah hts;have VK:=ah hbig;have eH:=ah hlen;have zh:=ah hm0;have kY:Hid (i+1<=maxLen):=ah (by unfold maxLen;have:=wX.out;omega);have kR:Hid ((i+1)*8<=140737488355328):=ah (by have:=wX.out;omega);clear hstep hts hbig hl hr4 hq hlen hss hm0;go_wp2_with fail
   go_region_law (first
    |(go_simp;go_at_call 102;refine(VK.out _ (by(repeat'(first|(with_reducible first|exact ay|apply aA|apply aB|apply aC|apply aF)|(right;simp;done))))).mono ?_;rintro e w5 ⟨rfl,hs5⟩;have m5:w5.cell? ⟨mb,20,none⟩=some (.slice A i c):=(by rw[<-eH.out];exact hs5.hm.cell 20);have uX:=ah hs5;have abt:mb<w5.heap.size:=hs5.hm.lt;clear hs5)
    |(with_reducible apply jL Ls (.tmp 69) (.tmp 72) (n:=i) (xs:=rH l) (A:=some ⟨_,0,none⟩) (m:=1) (c:=1) (news:=[.int .u64 nb])
      rfl
      rfl
      exact(rfl:_=Value.slice A i c)
      (refine aP (F:=aj) (by rw[<-eH.out];exact uX.out.row.1) ?_ (fun _ _ x=>x);(repeat'(first|(with_reducible first|exact ay|apply aA|apply aB|apply aC|apply aF)|(right;simp;done))))
      exact(rfl:_=Value.slice (some ⟨_,0,none⟩) 1 1)
      (refine Src.kW (t:=22) (cs:=#[.int .u64 nb]) ?_ rfl;(repeat (with_reducible first|exact Has.dQ _ _ _ (by simp)|apply Has.drew|apply Has.drewN|apply Has.alloc|(apply Has.past<;>(try omega)))))
      (intro u hu;simp at hu;rcases hu with rfl;rfl)
      exact kY.out
      exact kR.out
      intro A6 c6 w6 ji fJ ha6
      rw[<-eH.out]at ji fJ ha6
      obtain⟨h6,hs6⟩:=SS.push (z:=(nb:Int)) HO.out ZJ.out uX.out (by(repeat'(first|(with_reducible first|exact ay|apply aA|apply aB|apply aC|apply aF)|(right;simp;done)))) ji fJ ha6 Ai.out
      have Tf:w6.cell? ⟨mb,20,none⟩=some (.slice A l.length c):=h6.cell 20
      have Ti:=h6.frozen 20
      rw[eH.out]at hs6
      have qH:=ah hs6;clear ji fJ ha6 h6 hs6))
   all_goals
    clear Tf Ti
    have oq:=wX.out
    go_wp2
    go_roundw
    case rel=>exact⟨i+1,A6,c6,by omega,by go_num,by rw[uM.out];exact qH.out⟩
    case measure=>simp[intOf];omega
  ·obtain rfl:i=n:=by omega
   have HF:=ah (bF.out wr A c hss);have qI:=ah hss;clear hss bF;go_wp2_with fail;refine(fU _ g s _ qI.out.rd).mono ?_;rintro e w4 ⟨rfl,rfl⟩;go_wp2;exact HF.out
theorem VL(o:Od w g mb y)(h:MS w s g mb y W x r)(hs:s.size<=maxLen){c:Nat}(hc:c∈letters)(h0:c=83->x.ss=[]):
  Calls Tryz.prog 60 #[.pointer (some ⟨g,0,none⟩),.pointer (some ⟨mb,0,none⟩),.int .i32 ((c:Nat):Int)] W (gG w s g mb y c x r):=by
 by_cases hn:isNum c=true
 ·exact VB o h hs hn
 have hcase:c=67\/c=97\/c=102\/c=108\/c=69\/c=83\/c=66\/c=120\/c=107\/c=116\/c=82:=by unfold letters at hc;simp only[List.mem_cons,List.not_mem_nil,or_false]at hc;have h2:¬(c=101\/c=115\/c=114\/c=110\/c=109\/c=112):=fun h=>hn (decide_eq_true h);omega
 rcases hcase with rfl|rfl|rfl|rfl|rfl|rfl|rfl|rfl|rfl|rfl|rfl
 ·exact Yb o h hs
 ·exact Ya o h hs
 ·exact VH o h hs
 ·exact VG o h hs
 ·exact Yd o h hs
 ·exact Yf o h hs (h0 rfl)
 ·exact Yc o h hs
 ·exact VF o h hs
 ·exact VI o h hs
 ·exact VJ o h hs
 ·exact Ye o h hs
end
theorem Ed{α β:Type}{p:Prop} [Decidable p]{a b:α}{f:α->β}{v:β}(ha:p->f a=v)(hb:¬p->f b=v):f (if p then a else b)=v:=by
 by_cases h:p
 ·rw[if_pos h];exact ha h
 ·rw[if_neg h];exact hb h
theorem Jr(x:aO)(c:Nat)(v:Int):(ou x c v).ss=x.ss/\(ou x c v).k=x.k:=by
 unfold ou;by_cases h1:c=101
 ·rw[if_pos h1];exact⟨rfl,rfl⟩
 rw[if_neg h1];by_cases h2:c=115
 ·rw[if_pos h2];exact⟨rfl,rfl⟩
 rw[if_neg h2];by_cases h3:c=114
 ·rw[if_pos h3];exact⟨rfl,rfl⟩
 rw[if_neg h3];by_cases h4:c=110
 ·rw[if_pos h4];exact⟨rfl,rfl⟩
 rw[if_neg h4];by_cases h5:c=109
 ·rw[if_pos h5];exact⟨rfl,rfl⟩
 rw[if_neg h5];exact⟨rfl,rfl⟩
theorem Lt(s:ByteArray){c:Nat}(hc:c≠83)(x:aO)(r:RS):(bG s c x r).1.ss=x.ss:=by
 unfold bG;refine Ed (f:=fun q:aO×RS×Int=>q.1.ss) (fun _=>(Jr _ _ _).1) (fun _=> ?_);refine Ed (f:=fun q:aO×RS×Int=>q.1.ss) (fun _=>rfl) (fun _=> ?_);refine Ed (f:=fun q:aO×RS×Int=>q.1.ss) (fun _=>rfl) (fun _=> ?_);refine Ed (f:=fun q:aO×RS×Int=>q.1.ss) (fun _=>rfl) (fun _=> ?_);refine Ed (f:=fun q:aO×RS×Int=>q.1.ss) (fun h=>absurd h hc) (fun _=> ?_);iterate 7 refine Ed (f:=fun q:aO×RS×Int=>q.1.ss) (fun _=>rfl) (fun _=> ?_)
 rfl
theorem Yg(s:ByteArray)(c:Nat)(x:aO)(r:RS):(bG s c x r).1.k=x.k:=by
 unfold bG;refine Ed (f:=fun q:aO×RS×Int=>q.1.k) (fun _=>(Jr _ _ _).2) (fun _=> ?_);iterate 11 refine Ed (f:=fun q:aO×RS×Int=>q.1.k) (fun _=>rfl) (fun _=> ?_)
 rfl
theorem AY(s:ByteArray)(a b:List Nat)(x:aO)(r:RS):dR s (a++b) x r=if(dR s a x r).2.2≠0 then dR s a x r else dR s b (dR s a x r).1 (dR s a x r).2.1:=by
 induction a generalizing x r with
 |nil=>rfl
 |cons c a ih=>
  show dR s (c::(a++b)) x r=_;rw[dR,dR];by_cases h:(bG s c x r).2.2≠0
  ·rw[if_pos h,if_pos h,if_pos h]
  ·rw[if_neg h,if_neg h,ih]
theorem Js(s:ByteArray)(c:Nat)(x:aO)(r:RS):dR s [c] x r=if(bG s c x r).2.2≠0 then bG s c x r else((bG s c x r).1,(bG s c x r).2.1,0):=by rw[dR];rfl
theorem VM(s:ByteArray)(l:List Nat)(hl:83∉l)(x:aO)(r:RS):(dR s l x r).1.ss=x.ss:=by
 induction l generalizing x r with
 |nil=>rfl
 |cons c l ih=>
  have h1:c≠83:=fun e=>hl (by rw[e];exact List.mem_cons_self ..);have h2:83∉l:=fun e=>hl (List.mem_cons_of_mem _ e);rw[dR];split
  ·exact Lt s h1 x r
  ·rw[ih h2,Lt s h1]
theorem VN(k:Int)(i:Nat)(h:(partsOf k)[i]? =some 83):83∉(partsOf k).take i:=by
 have hi:i<8:=by have h1:=(lD0.1 h).1;have:=pV k;omega
 by_cases hk:1<=k/\k<=15
 ·have h1:k=1\/k=2\/k=3\/k=4\/k=5\/k=6\/k=7\/k=8\/k=9\/k=10\/k=11\/k=12\/k=13\/k=14\/k=15:=by omega
  have hd:∀n:Nat,n<16->∀i,i<8->(partsOf n)[i]? =some 83->83∉(partsOf n).take i:=by decide
  have:=hd k.toNat (by omega) i hi;rw[Int.toNat_of_nonneg (by omega)]at this;exact this h
 ·unfold partsOf at h;rw[if_neg hk]at h;cases h
end bJ
namespace bJ
open bg Ops fG Vn eP qh iI Go.Proofs.YtgbigpdiacjbgaaGreat.Ask
theorem Nr{α β:Type}(f:β->Int)(g:α->β)(l:List α):bK f (l.map g)=bK (fun a=>f (g a)) l:=by
 induction l with
 |nil=>rfl
 |cons a l ih=>rw[List.map_cons,bK,bK,ih]
theorem Lu(x:aO)(c:Nat):aT (strip x) c=aT x c:=by
 have h1:mP (strip x) c=mP x c:=rfl;have h2:(strip x).es.length=x.es.length:=by show(x.es.map Ah).length=_;rw[List.length_map]
 have h3:bK (fun y=>Ops.chk (lZ y)) (strip x).es=bK (fun y=>Ops.chk (lZ y)) x.es:=Nr _ _ _;unfold aT;rw[h1,h2,h3];rfl
theorem lT(x:aO):dP (strip x)=dP x:=by unfold dP;rw[show aT (strip x)=aT x from funext (Lu x)];rfl
theorem lu.mono{w:World}{B B':Nat}{l:List iM}(h:lu w B l)(hB:B'<=B):lu w B' l:=fun y hy=>by obtain⟨a1,a2,a3,a4⟩:=h y hy;exact⟨a1,a2,fun ad e=>Nat.le_trans hB (a3 ad e),a4⟩
theorem dF.mono{W:World}{B B':Nat}{x:aO}(h:dF W B x)(hB:B'<=B):dF W B' x:=
 ⟨h.m,h.mc,fun ad e=>Nat.le_trans hB (h.mn ad e),h.ml,h.o,h.oc,fun ad e=>Nat.le_trans hB (h.on ad e),h.e,h.ec,fun ad e=>Nat.le_trans hB (h.en ad e),h.el,h.eo.mono hB,⟨h.s.1,fun k hk=>Nat.le_trans hB (h.s.2 k hk)⟩,h.sl,h.so,h.p,h.pc,fun ad e=>Nat.le_trans hB (h.pn ad e),h.pl,h.t,h.s0,h.pm⟩
theorem dF.zero(W:World)(B:Nat)(k:Int):dF W B {zM with k:=k}:=
 ⟨Src.nil _ _ _,Nat.le_refl _,(fun ad e=>by cases e),Nat.zero_le _,Src.nil _ _ _,Nat.le_refl _,(fun ad e=>by cases e),Src.nil _ _ _,Nat.le_refl _,(fun ad e=>by cases e),Nat.zero_le _,(fun y hy=>by cases hy),⟨⟨rfl,.inl ⟨rfl,rfl⟩⟩,(fun k hk=>by simp[zM,Value.ownBlock]at hk)⟩,Nat.zero_le _,(fun y hy=>by cases hy),Src.nil _ _ _,Nat.le_refl _,(fun ad e=>by cases e),Nat.zero_le _,(show((0:Int)<=0/\(0:Int)<=aY)/\((0:Int)<=0/\(0:Int)<=aY)/\((0:Int)<=0/\(0:Int)<=aY) by unfold aY;decide),(fun _=>⟨rfl,rfl⟩),Nat.zero_le _⟩
theorem vZ{W:World}{k:Nat}{s:ByteArray}{j:Nat}:Kept (fun i=>i=k) W (W.iterAt k s j):=Kept.iterAt (Kept.refl (fun i=>i=k) W) (.inl rfl) s j
theorem Src.iter{W:World}{size m:Nat}{A:Option Addr}{news:List Value}(h:Src W size A m news)(hsz:0<size){k i j:Nat}{s:ByteArray}(hit:W.heap[k]? =some (.stringIter s i)):Src (W.iterAt k s j) size A m news:=
 Src.WZ h vZ fun h0 ad e hb=>by
  obtain⟨Xa,e2,_,hc⟩:=h.2 h0;rw[e]at e2;injection e2 with e2;subst e2;have hl:0<news.length:=by rw[h.1];exact Nat.mul_pos h0 hsz
  have h1:=hc 0 _ (lB0 hl);have h2:W.cell? (ad.add 0)=none:=by
   unfold World.cell?
   rw[block_add,hb,hit]
  rw[h2]at h1;cases h1
theorem lu.iter{W:World}{B:Nat}{l:List iM}(h:lu W B l){k i j:Nat}{s:ByteArray}(hit:W.heap[k]? =some (.stringIter s i)):lu (W.iterAt k s j) B l:=fun y hy=>by obtain⟨a1,a2⟩:=h y hy;exact⟨Src.iter a1 (by decide) hit,a2⟩
theorem dF.iter{W:World}{B:Nat}{x:aO}(h:dF W B x){k i j:Nat}{s:ByteArray}(hit:W.heap[k]? =some (.stringIter s i)):dF (W.iterAt k s j) B x:=
 ⟨Src.iter h.m (by decide) hit,h.mc,h.mn,h.ml,Src.iter h.o (by decide) hit,h.oc,h.on,Src.iter h.e (by decide) hit,h.ec,h.en,h.el,h.eo.iter hit,⟨aP h.s.1 vZ (fun g hg e=>by
  rcases h.s.1.2 with⟨e1,_⟩|⟨g',cap,cur,e1,_,hh,_⟩
  ·rw[e1]at hg;simp[Value.ownBlock]at hg
  ·rw[e1]at hg;obtain rfl:g'=g:=by simpa [Value.ownBlock]using hg
   rw[e,hit]at hh;cases hh),h.s.2⟩,h.sl,h.so,Src.iter h.p (by decide) hit,h.pc,h.pn,h.pl,h.t,h.s0,h.pm⟩
theorem MS.iter{w W:World}{s:ByteArray}{g mb y:Nat}{x:aO}{r:RS}(o:Od w g mb y)(h:MS w s g mb y W x r){k i j:Nat}{t:ByteArray}(hit:W.heap[k]? =some (.stringIter t i))(hk:mb<k)(hw:w.heap.size<=k):MS w s g mb y (W.iterAt k t j) x r:=by have a:=o.yg;have b:=o.gm;exact⟨h.rd.kept vZ (by omega),h.hm.kept vZ (by omega),h.hy.kept vZ (by omega),h.at'.iter hit,h.k.trans vZ (fun i hi=>by rw[hi];exact .inr hw)⟩
def lU(w:World)(s:ByteArray)(e:Ending)(w':World):Prop:=
 ∃x,e=.returned (.tuple #[aK x,.int .i64 (ofM s).2])/\strip x=(ofM s).1/\dF w' w.heap.size x/\Kept aj w w'
abbrev Ee(n:Int):Array Value:=#[.int .i64 n,.int .i64 0,.int .i64 0,.int .i64 0,.bool false,.int .u64 0,.int .u64 0,.int .i64 0,.int .i64 0,.int .i64 0,.int .i64 0,.string ⟨#[]⟩,.string ⟨#[]⟩,.int .i64 0,.slice none 0 0,.int .u64 0,.int .i64 0,.int .i64 0,.slice none 0 0,.slice none 0 0,.slice none 0 0,.slice none 0 0]
section
variable{w W:World}{s:ByteArray}{g mb y:Nat}{x:aO}{r:RS}
theorem CP(h:Has W y 63 (au zM).toArray)(x:aO):∃W',(jV ⟨y,0,none⟩ (.agg (au x).toArray)).run Tryz.prog W=.ok () W'/\Has W' y 63 (au x).toArray/\Kept (fun k=>k=y) W W':=jF h rfl x
theorem Yh(h:Has W mb 63 (au x).toArray)(hx:pU W x):Calls Tryz.prog 63 #[.pointer (some ⟨mb,0,none⟩)] W fun e w'=>e=.returned (.int .i64 (dP x))/\Kept aj W w':=by have hc:=GL W x hx;obtain⟨z,hz⟩:∃z,dP x=z:=⟨_,rfl⟩;rw[hz]at hc⊢;have HC:=ah hc;have H:=ah h;clear hc hz h hx;go_enter Tryz.func63,Tryz.ntmps63;go_wp2_with (refine wpList_load_row rfl 63 (.tmp 0) rfl mb rfl 63 _ (0,0) _ H.out Tryz.underlying63 rfl (by kernel_rfl) ?_);refine HC.out.mono ?_;rintro e w2 ⟨rfl,hk⟩;have HK:=ah hk;clear hk;go_wp2;go_ret;exact⟨rfl,HK.out⟩
end
theorem ZK{F:Nat->Prop}{a b:World}(h:Kept F a b)(hF:∀k,F k->a.heap.size<=k):Kept aj a b:=(Kept.refl aj a).trans h (fun i hi=> .inr (hF i hi))
attribute [local go_sem↓] bW cZ
theorem Ij(w:World)(s:ByteArray)(hs:s.size<=maxLen):Calls Tryz.prog 29 #[.string s] w (lU w s):=by
 obtain⟨W0,hW0⟩:∃W0,w.alloc (.cells (au zM).toArray 63)=W0:=⟨_,rfl⟩;have hk0:Kept aj w W0:=by rw[<-hW0];(repeat'(first|(with_reducible first|exact ay|apply aA|apply aB|apply aC|apply aF)|(right;simp;done)))
 have hy0:Has W0 w.heap.size 63 (au zM).toArray:=by rw[<-hW0];exact Has.new _ _ _
 have hop:=open_any W0 s;have hfin:∀W' x er,ofM s=(strip x,er)->dF W' w.heap.size x->Kept aj w W'->lU w s (.returned (.tuple #[aK x,.int .i64 er])) W':=fun W' x er e1 hx hk=>⟨x,by rw[e1],by rw[e1],hx,hk⟩
 have CQ:ofM s=if(aG s 15 (0,0)).2.2≠0 then (zM,(aG s 15 (0,0)).2.2)
   else if isKind (aG s 15 (0,0)).1=false then (zM,11)
   else if(dR s (partsOf (aG s 15 (0,0)).1) {zM with k:=(aG s 15 (0,0)).1} (aG s 15 (0,0)).2).2.2≠0 then (zM,(dR s (partsOf (aG s 15 (0,0)).1) {zM with k:=(aG s 15 (0,0)).1} (aG s 15 (0,0)).2).2.2)
   else if iJ s (dR s (partsOf (aG s 15 (0,0)).1) {zM with k:=(aG s 15 (0,0)).1} (aG s 15 (0,0)).2).2.1≠0 then (zM,iJ s (dR s (partsOf (aG s 15 (0,0)).1) {zM with k:=(aG s 15 (0,0)).1} (aG s 15 (0,0)).2).2.1)
   else if dP (dR s (partsOf (aG s 15 (0,0)).1) {zM with k:=(aG s 15 (0,0)).1} (aG s 15 (0,0)).2).1≠0 then (zM,dP (dR s (partsOf (aG s 15 (0,0)).1) {zM with k:=(aG s 15 (0,0)).1} (aG s 15 (0,0)).2).1)
   else((dR s (partsOf (aG s 15 (0,0)).1) {zM with k:=(aG s 15 (0,0)).1} (aG s 15 (0,0)).2).1,0):=rfl
 obtain⟨q,hq⟩:∃q,aG s 15 (0,0)=q:=⟨_,rfl⟩;rw[hq]at CQ;obtain⟨n,r1⟩:=q;dsimp only at CQ;obtain⟨y,hy⟩:∃y,w.heap.size=y:=⟨_,rfl⟩;rw[hy]at hy0;have vU:=ah hy0;have aS:=ah hk0;have HOP:=ah hop;have bF:=ah hfin;have Bq:=ah CQ;have HQ:=ah hq;have HY:=ah hy;generalize lU w s=Q at bF⊢;unfold au zM at hW0;dsimp only[List.length_nil]at hW0;clear hy0 hk0 hop hfin CQ hq;go_enter Tryz.func29,Tryz.ntmps29;go_wp2_with fail;clear hW0 hy;refine HOP.out.mono ?_;rintro e w2 ⟨rfl,hr2,hk2⟩;obtain⟨g,hg⟩:∃g,W0.heap.size=g:=⟨_,rfl⟩;rw[hg]at hr2⊢;have hyg:y<g:=by have:=vU.out.lt;omega
 have HR2:=ah hr2;have nR:=ah (vU.out.kept hk2 (fun z=>z));have gJ:=ah (aS.out.then hk2);have Xd:=ah hyg;clear hr2 hk2 hg hyg vU aS HOP;go_wp2_with fail;refine(oZ _ g s (0,0) 15 HR2.out hs (by decide)).mono ?_;rw[HQ.out];rintro e w3 ⟨rfl,hr3,hk3⟩;dsimp only at hr3⊢;have FU:n<=15:=by have:=jG s 15 (0,0);rw[HQ.out]at this;exact this
 obtain⟨Wz,W4,gY,fP,hb4,hk4⟩:=kK w3 {zM with k:=(n:Int)};obtain⟨mb,hmb⟩:∃mb,w3.heap.size=mb:=⟨_,rfl⟩;rw[hmb]at fP hb4;have hgm:g<mb:=by have:=hr3.1.lt;omega
 have hwg:w.heap.size<=g:=by have:=HY.out;have:=Xd.out;omega
 have hms:MS w s g mb y W4 {zM with k:=(n:Int)} r1:=⟨hr3.kept hk4 (fun z=>z),hb4,(nR.out.kept hk3 (fun e=>by have:=Xd.out;omega)).kept hk4 (fun z=>z),dF.zero _ _ _,((gJ.out.mono (fun _ z=>z.elim)).trans hk3 (fun i hi=> .inl (.inl hi))).trans hk4 (fun _ z=>z.elim)⟩;have hod:Od w g mb y:=⟨Xd.out,hgm⟩;have hun:∀W',Kept (fun k=>k=g\/k=mb) w W'->Kept aj w W':=fun W' hk=>ZK hk (fun k hk2=>by omega);have I9:=ah hms;have ZL:=ah hod;have HUN:=ah hun;have VO:=ah FU;have ZM:=ah (And.intro hwg hgm);unfold au zM at fP;dsimp only[List.length_nil]at fP;clear hms hod hun FU hk4 hb4 hgm hwg hr3 hk3 HR2 nR gJ HQ Xd;go_wp2_with fail;clear gY fP hmb;refine(fU W4 g s r1 I9.out.rd).mono ?_;rintro e w5 ⟨rfl,rfl⟩;obtain⟨a1,er⟩:=r1;dsimp only at Bq⊢;have hbad:∀W x' r',MS w s g mb y W x' r'->∃W6,(jV ⟨y,0,none⟩ (.agg (Ee 0))).run Tryz.prog W=.ok () W6/\Has W6 y 63 (au zM).toArray/\Kept aj w W6:=fun W x' r' hm=>by obtain⟨W6,h1,h2,h3⟩:=CP hm.hy zM;exact⟨W6,h1,h2,(HUN.out _ hm.k).trans h3 (fun i hi=> .inr (by have:=HY.out;omega))⟩
 have HBAD:=ah hbad;clear hbad;by_cases he:er=0;rotate_left
 ·have he2:(er !=0)=true:=by simpa using he
  have hof:=Bq.out;rw[if_pos he]at hof;have dw:=ah hof;obtain⟨W6,hst,kP,hk6⟩:=HBAD.out W4 _ _ I9.out;have BQ:=ah kP;have eu:=ah hk6;clear hof he kP hk6 Bq;go_wp2_with fail;refine bodyPost_ret (aU rfl _ _ y _ rfl (aH _ _ _ BQ.out)) rfl ?_;exact bF.out W6 zM er dw.out (dF.zero _ _ 0) eu.out
 subst he;have hof:=Bq.out;rw[if_neg (by simp)]at hof;have gK:=ah hof;clear hof Bq;have q0:W4.cell? ⟨mb,0,none⟩=some (.int .i64 (n:Int)):=I9.out.hm.cell 0;cases hkd:isKind (n:Int)with
 |false=>
  have hpn:=KY W4 (n:Int) hkd;have hof:=gK.out;rw[if_pos hkd]at hof;have dw:=ah hof;have YP:=ah hpn;clear hof hpn gK hkd;go_wp2_with fail;clear q0;refine YP.out.mono ?_;rintro e w6 ⟨rfl,hk6⟩;obtain⟨W6,hst,kP,aZ⟩:=HBAD.out w6 _ _ (I9.out.quiet hk6);have BQ:=ah kP;have eu:=ah aZ;clear kP hk6 aZ;go_wp2_with fail;refine bodyPost_ret (aU rfl _ _ y _ rfl (aH _ _ _ BQ.out)) rfl ?_;exact bF.out W6 zM 11 dw.out (dF.zero _ _ 0) eu.out
 |true=>
  have hpy:=D5 W4 (n:Int) hkd;have hof:=gK.out;rw[if_neg (by rw[hkd];decide)]at hof;have hlet:=rP (n:Int);have ZN:=VN (n:Int);have kJ:=pV (n:Int);obtain⟨l,hl⟩:∃l,partsOf (n:Int)=l:=⟨_,rfl⟩;rw[hl]at hpy hof hlet kJ;simp only[hl]at ZN;have dw:=ah hof;have HPY:=ah hpy;have Bl:=ah hlet;have ZO:=ah ZN;have sO:=ah kJ;clear hof hpy gK hkd hlet ZN kJ hl;go_wp2_with fail;clear q0;refine HPY.out.mono ?_;rintro e w6 ⟨rfl,hk6⟩;have Py:=ah (I9.out.quiet hk6);clear hk6 I9;go_wp2_with fail;have Sr:mb<w6.heap.size:=Py.out.hm.lt;have hwi:w.heap.size<=w6.heap.size:=Py.out.k.size;have ZP:=ah (And.intro Sr hwi);clear Sr hwi;go_loopg [] l.length (fun gf wx=>∃(i:Nat) (x':aO) (r':RS),i<=l.length/\MS w s g mb y wx x' r'/\dR s (l.take i) {zM with k:=(n:Int)} (a1,0)=(strip x',r',0)/\wx.heap[w6.heap.size]? =some (.stringIter (lets l) i)/\l.length<=i+gf)
  case atStart=>exact⟨0,_,_,Nat.zero_le _,Py.out.quiet ((Kept.refl _ _).alloc _),by rw[List.take_zero];rfl,heap_alloc_new _ _,by omega⟩
  case round=>
   obtain⟨i,x',r',hi,hm,hrl,hit,hfu⟩:=hrel;clear Py;by_cases hil:i<l.length
   ·obtain⟨g',rfl⟩:∃g',gk=g'+1:=⟨gk-1,by omega⟩;obtain⟨c,hc⟩:∃c,l[i]? =some c:=⟨_,lB0 hil⟩;have hci:l[i]=c:=by rw[lB0 hil]at hc;exact Option.some.inj hc
    have hcm:=lC0 hc;obtain⟨hps,hb,ha⟩:=Ic Bl.out hc;have hnx:∀ty,(Instr.next (.pointer (some ⟨w6.heap.size,0,none⟩)) true ty).run Tryz.prog wr=_:=fun ty=>Lib.run_next_ascii_at wr w6.heap.size (lets l) i ty hit hps ha;rw[hb]at hnx;have hm2:=hm.iter ZL.out hit ZP.out.1 ZP.out.2 (j:=i+1);have hit2:=Lib.iterAt_heap wr w6.heap.size (lets l) i (i+1) hit;obtain⟨W,hWd⟩:∃W,wr.iterAt w6.heap.size (lets l) (i+1)=W:=⟨_,rfl⟩;rw[hWd]at hnx hm2 hit2;have hss:c=83->x'.ss=[]:=fun e=>by subst e;have h1:=VM s (l.take i) (ZO.out i hc) {zM with k:=(n:Int)} (a1,0);rw[hrl]at h1;exact h1
    have hread:=VL (w:=W) ⟨ZL.out.yg,ZL.out.gm⟩ (MS.base (w2:=W) hm2 (Kept.refl _ _)) hs (Bl.out c hcm) hss;have htk:l.take (i+1)=l.take i++[c]:=by rw[List.take_succ_eq_append_getElem hil,hci]
    have hnext:dR s (l.take (i+1)) {zM with k:=(n:Int)} (a1,0)=if(bG s c (strip x') r').2.2≠0 then bG s c (strip x') r' else((bG s c (strip x') r').1,(bG s c (strip x') r').2.1,0):=by rw[htk,AY,hrl,if_neg (by simp),Js]
    unfold gG at hread;obtain⟨q,hq⟩:∃q,bG s c (strip x') r'=q:=⟨_,rfl⟩;rw[hq]at hread hnext;obtain⟨qx,qr,qe⟩:=q;dsimp only at hread hnext;have aaT:=ah hread;have Pz:=ah hnext;have ZQ:=ah hit2;have kR:=ah hm2;clear hread hnext hit2 hm2 hss htk hq hrl hm hit hWd hb ha hps hc hci hcm;go_wp2_with fail;clear hnx;refine aaT.out.mono ?_;rintro e w7 ⟨x2,rfl,hx2,Tj⟩;have PD:=MS.base (w2:=w) Tj (kR.out.k.then Tj.k);have VP:w7.heap[w6.heap.size]? =some (.stringIter (lets l) (i+1)):=by
     have h9:w6.heap.size<W.heap.size:=by
      have h1:=ZQ.out;rcases Nat.lt_or_ge w6.heap.size W.heap.size with h|h
      ·exact h
      ·rw[Array.getElem?_eq_none h]at h1;cases h1
     exact(Tj.k.block _ h9 (fun e=>by have:=ZP.out.1;have:=ZM.out.2;omega)).trans ZQ.out
    by_cases he:qe=0
    ·subst he;have hnext:=Pz.out;rw[if_neg (by simp),<-hx2 rfl]at hnext;have HM7:=ah PD;have abu:=ah VP;have abv:=ah hnext;clear PD VP hnext Tj hx2;go_wp2;go_roundg g'
     case measure=>omega
     case rel=>exact⟨i+1,x2,qr,by omega,HM7.out,abv.out,abu.out,by omega⟩
    ·have he2:(qe !=0)=true:=by simpa using he
     have hnext:=Pz.out;rw[if_pos he]at hnext;have hall:dR s l {zM with k:=(n:Int)} (a1,0)=(qx,qr,qe):=by have h1:=AY s (l.take (i+1)) (l.drop (i+1)) {zM with k:=(n:Int)} (a1,0);rw[List.take_append_drop,hnext,if_pos he]at h1;exact h1
     have hof:=dw.out;rw[hall]at hof;dsimp only at hof;rw[if_pos he]at hof;have dB:=ah hof;obtain⟨W8,hst,AZ,hk8⟩:=HBAD.out w7 _ _ PD;have GX:=ah AZ;have Jt:=ah hk8;clear hof hall hnext he AZ hk8 PD VP Tj hx2 dw Pz;go_wp2_with fail;refine bodyPost_ret (aU rfl _ _ y _ rfl (aH _ _ _ GX.out)) rfl ?_;exact bF.out W8 zM qe dB.out (dF.zero _ _ 0) Jt.out
   ·obtain rfl:i=l.length:=by omega
    rw[List.take_length]at hrl;have hps:¬l.length<(lets l).size:=by rw[AO];omega
    have hnx:∀ty,(Instr.next (.pointer (some ⟨w6.heap.size,0,none⟩)) true ty).run Tryz.prog wr=_:=fun ty=>Lib.run_next_end_at wr w6.heap.size (lets l) l.length ty hit hps;have hof:=dw.out;rw[hrl]at hof;dsimp only at hof;rw[if_neg (by simp)]at hof;have hend:=qO wr g s r' hm.rd hs;obtain⟨ee,hee⟩:∃ee,iJ s r'=ee:=⟨_,rfl⟩;rw[hee]at hof hend;have dB:=ah hof;have aX:=ah hend;have HM:=ah hm;clear hof hend hm hrl hit hps hee dw;go_wp2_with fail;clear hnx;refine aX.out.mono ?_;rintro e w8 ⟨rfl,hk8⟩;have Tm:=ah (HM.out.quiet hk8);clear hk8 HM aX;by_cases he:ee=0;rotate_left
    ·have hof:=dB.out;rw[if_pos he]at hof;have Ik:=ah hof;have he2:(ee !=0)=true:=by simpa using he
     have HE:=ah he;clear hof he dB he2;go_wp2_with fail;refine(KZ _ _ _ HE.out).mono ?_;rintro e w9 ⟨rfl,rfl⟩;have he2:(ee !=0)=true:=by have:=HE.out;simpa using this
     obtain⟨W8,hst,AZ,hk8⟩:=HBAD.out _ _ _ Tm.out;have GX:=ah AZ;have Jt:=ah hk8;clear AZ hk8;go_wp2_with fail;refine bodyPost_ret (aU rfl _ _ y _ rfl (aH _ _ _ GX.out)) rfl ?_;exact bF.out W8 zM ee Ik.out (dF.zero _ _ 0) Jt.out
    subst he;have hof:=dB.out;rw[if_neg (by simp),lT]at hof;have hoc:=Yh Tm.out.hm Tm.out.at'.ok;obtain⟨ck,hck⟩:∃ck,dP x'=ck:=⟨_,rfl⟩;rw[hck]at hof hoc;have Ik:=ah hof;have HOC:=ah hoc;clear hof hoc hck dB;go_wp2_with fail;refine(O5 _ 63 _ ck (fun args W=>Mst.enters Tryz.func63 (by kernel_rfl) rfl args W) HOC.out).mono ?_;rintro e w9 ⟨rfl,hk9⟩;have Tn:=ah (Tm.out.quiet hk9);clear hk9 Tm;by_cases he:ck=0;rotate_left
    ·have hof:=Ik.out;rw[if_pos he]at hof;have VQ:=ah hof;have he2:(ck !=0)=true:=by simpa using he
     obtain⟨W8,hst,AZ,hk8⟩:=HBAD.out _ _ _ Tn.out;have GX:=ah AZ;have Jt:=ah hk8;clear AZ hk8 hof he Ik;go_wp2_with fail;refine bodyPost_ret (aU rfl _ _ y _ rfl (aH _ _ _ GX.out)) rfl ?_;exact bF.out W8 zM ck VQ.out (dF.zero _ _ 0) Jt.out
    subst he;have hof:=Ik.out;rw[if_neg (by simp)]at hof;have VQ:=ah hof;obtain⟨W8,hst,AZ,hk8⟩:=CP Tn.out.hy x';have hld:=aH w9 mb x' Tn.out.hm;have Tq:dF W8 w.heap.size x':=(Tn.out.at'.kept hk8 (fun k hk=>by have:=ZM.out;have:=HY.out;omega)).mono (by have:=ZM.out;omega);have hkw:Kept aj w W8:=(HUN.out _ Tn.out.k).trans hk8 (fun i hi=> .inr (by have:=HY.out;omega));have GX:=ah AZ;have HX8:=ah Tq;have mW:=ah hkw;obtain⟨cs,hcs⟩:∃cs,(au x').toArray=cs:=⟨_,rfl⟩;rw[hcs]at hst hld;have dV:=ah hcs;clear AZ hk8 Tq hkw hof Ik hcs;go_wp2_with fail;refine bodyPost_ret (aU rfl _ _ y _ rfl (aH _ _ _ GX.out)) rfl ?_;exact bF.out W8 x' 0 VQ.out HX8.out mW.out

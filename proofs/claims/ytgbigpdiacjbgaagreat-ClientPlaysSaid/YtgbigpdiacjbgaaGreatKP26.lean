/- Part 27. -/
import Derived.Test.YtgbigpdiacjbgaaGreatKP25
set_option linter.unusedSimpArgs false
set_option linter.unusedVariables false
set_option maxHeartbeats 32000000
set_option maxRecDepth 100000
namespace Go.Proofs.YtgbigpdiacjbgaaGreat
open Go.RowKit
namespace bJ
open bg Ops fG Vn eP qh iI
theorem Jn:Elem Tryz.prog 34 84 2 32:=by obtain⟨i0,hi,hz0,hz1,hz2⟩:=info_parts (show(Tryz.prog.info? 84).map (fun i=>(i.zero,i.size,i.bytes))=some (some (.agg #[.string ⟨#[]⟩,.string ⟨#[]⟩]),2,32) by kernel_rfl);exact⟨Tryz.underlying34,⟨i0,_,hi,hz0,hz1,hz2,rfl⟩,by decide⟩
theorem Ec(l:List iC)(p:iC):bI (l++[p])=bI l++[.string p.key,.string p.val]:=by unfold bI;rw[List.flatMap_append];simp[Az]
def cO(s:ByteArray):Nat->RS->List iC×RS
 |0,r=>([],r)
 |k+1,r=>((cO s k r).1++[⟨(aN s 8 (cO s k r).2).1,(aN s 8 (aN s 8 (cO s k r).2).2).1⟩],(aN s 8 (aN s 8 (cO s k r).2).2).2)
theorem zA(s:ByteArray)(r:RS):∀k,(cO s k r).1.length=k:=by
 intro k;induction k with
 |zero=>rfl
 |succ k ih=>rw[cO];simp[ih]
def Ll(w:World)(g:Nat)(s:ByteArray)(q:List iC×RS)(e:Ending)(w':World):Prop:=
 ∃A c,e=.returned (.slice A q.1.length c)/\bV 84 2 w.heap.size w' A q.1.length c (bI q.1)/\iH w' g s q.2/\Kept (fun k=>k=g) w w'
theorem Vz(w:World)(g:Nat)(s:ByteArray)(r:RS)(h:iH w g s r)(hs:s.size<=maxLen):
  Calls Tryz.prog 103 #[.pointer (some ⟨g,0,none⟩)] w (Ll w g s (cO s (aG s 32 r).1 (aG s 32 r).2)):=by
 have hnum:=oZ w g s r 32 h hs (by decide);have hn4:=jG s 32 r;have hgl:=h.1.lt;obtain⟨q,hq⟩:∃q,aG s 32 r=q:=⟨_,rfl⟩;rw[hq]at hnum hn4⊢;obtain⟨n,r3⟩:=q;dsimp only at hnum hn4⊢;have uq:=ah hnum;have Lj:=ah hgl;clear hnum hgl h hq;go_enter Tryz.func103,Tryz.ntmps103;go_wp2_with fail;refine uq.out.mono ?_;rintro e w2 ⟨rfl,hr2,hk2⟩;have HR2:=ah hr2;have gJ:=ah hk2;clear hr2 hk2 uq;go_wp2_with fail;go_loopw [3,7] (fun v3 v7 wr=>∃(i:Nat) (A:Option Addr) (c:Nat),i<=n/\v7=.int .i64 i/\v3=.slice A i c/\bV 84 2 w.heap.size wr A i c (bI (cO s i r3).1)/\iH wr g s (cO s i r3).2/\Kept (fun k=>k=g) w wr) (fun _ v7 _=>n-(intOf v7).toNat)
 case atStart=>exact⟨0,none,0,Nat.zero_le _,rfl,rfl,⟨⟨rfl,.inl ⟨rfl,rfl⟩⟩,fun k hk=>by simp[Value.ownBlock]at hk⟩,HR2.out,gJ.out⟩
 case round=>
  obtain⟨i,A,c,hi,rfl,rfl,hr,hrd,hk⟩:=hrel;clear HR2 gJ;by_cases hin:i<n
  ·have hstep:cO s (i+1) r3=((cO s i r3).1++[⟨(aN s 8 (cO s i r3).2).1,(aN s 8 (aN s 8 (cO s i r3).2).2).1⟩],(aN s 8 (aN s 8 (cO s i r3).2).2).2):=rfl;obtain⟨r4,hr4⟩:∃r4,(cO s i r3).2=r4:=⟨_,rfl⟩;obtain⟨l0,hl0⟩:∃l0,(cO s i r3).1=l0:=⟨_,rfl⟩;rw[hr4]at hstep hrd;rw[hl0]at hstep hr;obtain⟨p1,hp1⟩:∃p,aN s 8 r4=p:=⟨_,rfl⟩;obtain⟨k1,ra⟩:=p1;rw[hp1]at hstep;dsimp only at hstep;obtain⟨p2,hp2⟩:∃p,aN s 8 ra=p:=⟨_,rfl⟩;obtain⟨v1,rb⟩:=p2;rw[hp2]at hstep;dsimp only at hstep;have ht1:=qw wr g s r4 8 hrd hs (by decide);rw[hp1]at ht1;dsimp only at ht1;have HT1:=ah ht1;have HP2:=ah hp2;have HST:=ah hstep;have HR:=ah hr;have HK:=ah hk;clear ht1 hp1 hp2 hstep hr hk hr4 hl0 hrd;go_wp2_with fail;refine HT1.out.mono ?_;rintro e w5 ⟨rfl,xN,hk5⟩;obtain⟨W6,pZ⟩:∃W6,w5.alloc (.cells #[.string k1,.string ⟨#[]⟩] 84)=W6:=⟨_,rfl⟩;have hk6:Kept aj w5 W6:=by rw[<-pZ];(repeat'(first|(with_reducible first|exact ay|apply aA|apply aB|apply aC|apply aF)|(right;simp;done)))
   have hb6:Has W6 w5.heap.size 84 #[.string k1,.string ⟨#[]⟩]:=by rw[<-pZ];exact Has.new _ _ _
   obtain⟨z,hz⟩:∃z,w5.heap.size=z:=⟨_,rfl⟩;rw[hz]at hb6;have hgz:g<z:=by have:=Lj.out;have:=HK.out.size;have:=hk5.size;omega
   have ht2:=qw W6 g s ra 8 (xN.kept hk6 (fun z=>z)) hs (by decide);rw[HP2.out]at ht2;dsimp only at ht2;have hwz:w5.heap.size<=z:=by omega
   have HT2:=ah ht2;have jS:=ah hb6;have E7:=ah hgz;have dK:=ah hk5;have eu:=ah hk6;have SV:=ah hwz;have Ii:bV 84 2 w.heap.size w5 A i c (bI l0):=⟨aP HR.out.1 hk5 (fun k hk e=>by have h1:=HR.out.2 k hk;have h2:=Lj.out;omega),HR.out.2⟩;have Eb:=ah Ii;have qR:=ah pZ;have HZE:=ah hz;clear ht2 hb6 hgz hk5 hk6 xN HT1 hwz Ii pZ hz;go_wp2_with fail;rw[qR.out,HZE.out];refine HT2.out.mono ?_;rintro e w7 ⟨rfl,SX,aZ⟩;have Xb:=jS.out.kept aZ (fun e=>by have:=E7.out;omega);have z1:=Xb.cell 1;have RH:=Xb.frozen 1;have Aj:Has (w7.setCell ⟨z,1,none⟩ (.string v1)) z 84 #[.string k1,.string v1]:=Has.aQ Xb rfl;have BO:=Aj.cell 0;have BP:=Aj.cell 1;simp only[lF0,List.getElem?_cons_zero,List.getElem?_cons_succ]at z1 BO BP;have VA:Kept (fun k=>k=g) w5 (w7.setCell ⟨z,1,none⟩ (.string v1)):=(((Kept.Lh eu.out).trans aZ (fun _ h=> .inl h))).put (.inr SV.out);have NV:iH (w7.setCell ⟨z,1,none⟩ (.string v1)) g s rb:=SX.kept ((Kept.refl (fun k=>k=z) w7).put (.inl rfl)) (fun e=>by have:=E7.out;omega);have Xc:bV 84 2 w.heap.size (w7.setCell ⟨z,1,none⟩ (.string v1)) A i c (bI l0):=⟨aP Eb.out.1 VA (fun k hk e=>by have h1:=Eb.out.2 k hk;have h2:=Lj.out;omega),Eb.out.2⟩;have Zv:=ah VA;have HR8:=ah NV;have dX:=ah Xc;have kY:Hid (i+1<=maxLen):=ah (by unfold maxLen;omega);have kR:Hid ((i+1)*32<=140737488355328):=ah (by omega);clear VA NV Xc SX aZ Xb Aj;go_wp2_with (at_builtin;refine bH Jn (.tmp 15) (.tmp 17) rfl rfl (Value.slice A i c) rfl (aP dX.out.1 (F:=aj) (by(repeat'(first|(with_reducible first|exact ay|apply aA|apply aB|apply aC|apply aF)|(right;simp;done)))) (fun _ _ x=>x)) 1 rfl (Src.kW (t:=84) (size:=2) (m:=1) (cs:=#[.string k1,.string v1]) (by(repeat (with_reducible first|exact Has.dQ _ _ _ (by simp)|apply Has.drew|apply Has.drewN|apply Has.alloc|(apply Has.past<;>(try omega))))) rfl) (by intro u hu;simp at hu;rcases hu with rfl|rfl<;>rfl) kY.out kR.out ?_;intro A7 c7 w9 SL SN SQ;have Zt:=ah SL;have Zu:=ah SN;have GU:=ah SQ;clear SL SN SQ);go_roundw
   case measure=>simp[intOf];omega
   case rel=>
    have CO:Kept (fun k=>(Value.slice A i c).ownBlock=some k) (w7.setCell ⟨z,1,none⟩ (.string v1)) w9:=Kept.grownBy (by(repeat'(first|(with_reducible first|exact ay|apply aA|apply aB|apply aC|apply aF)|(right;simp;done)))) Zu.out (fun k hk=> .inl hk);have hB:w.heap.size<=(w7.setCell ⟨z,1,none⟩ (.string v1)).heap.size:=by have:=HK.out.size;have:=dK.out.size;have:=Zv.out.size;omega
    refine⟨i+1,A7,c7,by omega,by go_num,rfl,?_,?_,?_⟩
    ·rw[HST.out];dsimp only;rw[Ec];exact bV.snoc dX.out (Nat.le_trans hB (by simp[size_alloc])) Zt.out GU.out
    ·rw[HST.out];exact HR8.out.kept CO (fun e=>by have h1:=dX.out.2 g e;have h2:=Lj.out;omega)
    ·exact(HK.out.then (dK.out.then Zv.out)).trans CO (fun k hk=> .inr (dX.out.2 k hk))
  ·obtain rfl:i=n:=by omega
   have hlen:=zA s r3 i;go_wp2_with fail;go_ret;exact⟨A,c,by rw[hlen];rfl,by rw[hlen];exact hr,hrd,hk⟩
end bJ
namespace bJ
open bg Ops fG Vn eP qh iI
def zM:aO:=⟨0,0,0,0,false,0,0,0,0,0,0,⟨#[]⟩,⟨#[]⟩,0,none,0,[],0,0,0,none,0,[],none,0,[],none,0,[],none,0,[]⟩
def strip(x:aO):aO:={x with mA:=none,mc:=0,oA:=none,oc:=0,eA:=none,ec:=0,es:=x.es.map Ah,sA:=none,sc:=0,pA:=none,pc:=0}
def ou(x:aO)(c:Nat)(v:Int):aO:=if c=101 then {x with ep:=v}else if c=115 then {x with tK:=v}else if c=114 then {x with req:=v}else if c=110 then {x with n:=v}else if c=109 then {x with m:=v}else{x with p:=v}
def bM(s:ByteArray):Nat->RS->List Int×RS
 |0,r=>([],r)
 |k+1,r=>((bM s k r).1++[((bD s (bM s k r).2).1:Int)],(bD s (bM s k r).2).2)
theorem yA(s:ByteArray)(r:RS):∀k,(bM s k r).1.length=k:=by
 intro k;induction k with
 |zero=>rfl
 |succ k ih=>rw[bM];simp[ih]
def bG(s:ByteArray)(c:Nat)(x:aO)(r:RS):aO×RS×Int:=
 if isNum c=true then (ou x c (aG s 1073741824 r).1,(aG s 1073741824 r).2,(aG s 1073741824 r).2.2)
 else if c=67 then ({x with fO:=(qj s r).1.ep,ms:=(qj s r).1.ms,mG:=(qj s r).1.fl},(aN s 65536 r).2,(qj s r).2)
 else if c=66 then ({x with o7:=(lS s r).1.cl,lK:=(lS s r).1.req,ops:=(lS s r).1.ops},(aN s 65536 r).2,(lS s r).2)
 else if c=69 then ({x with es:=(dH s (aG s 4 r).1 (aG s 4 r).2).1},(dH s (aG s 4 r).1 (aG s 4 r).2).2.1,if(dH s (aG s 4 r).1 (aG s 4 r).2).2.2≠0 then (dH s (aG s 4 r).1 (aG s 4 r).2).2.2 else(dH s (aG s 4 r).1 (aG s 4 r).2).2.1.2)
 else if c=83 then ({x with ss:=x.ss++(bM s (aG s 8 r).1 (aG s 8 r).2).1},(bM s (aG s 8 r).1 (aG s 8 r).2).2,(bM s (aG s 8 r).1 (aG s 8 r).2).2.2)
 else if c=82 then ({x with ps:=(cO s (aG s 32 r).1 (aG s 32 r).2).1},(cO s (aG s 32 r).1 (aG s 32 r).2).2,(cO s (aG s 32 r).1 (aG s 32 r).2).2.2)
 else if c=120 then ({x with e:=(aG s 21 r).1},(aG s 21 r).2,(aG s 21 r).2.2)
 else if c=97 then ({x with at':=(bD s r).1},(bD s r).2,(bD s r).2.2)
 else if c=108 then ({x with last:=(bD s r).1},(bD s r).2,(bD s r).2.2)
 else if c=102 then ({x with fl:=(fZ s r).1},(fZ s r).2,(fZ s r).2.2)
 else if c=107 then ({x with key:=(aN s 8 r).1},(aN s 8 r).2,(aN s 8 r).2.2)
 else if c=116 then ({x with to:=(aN s 8 r).1},(aN s 8 r).2,(aN s 8 r).2.2)
 else(x,r,r.2)
def dR(s:ByteArray):List Nat->aO->RS->aO×RS×Int
 |[],x,r=>(x,r,0)
 |c::l,x,r=>if(bG s c x r).2.2≠0 then bG s c x r else dR s l (bG s c x r).1 (bG s c x r).2.1
def ofM(s:ByteArray):aO×Int:=
 if(aG s 15 (0,0)).2.2≠0 then (zM,(aG s 15 (0,0)).2.2)
 else if isKind (aG s 15 (0,0)).1=false then (zM,11)
 else if(dR s (partsOf (aG s 15 (0,0)).1) {zM with k:=(aG s 15 (0,0)).1} (aG s 15 (0,0)).2).2.2≠0 then (zM,(dR s (partsOf (aG s 15 (0,0)).1) {zM with k:=(aG s 15 (0,0)).1} (aG s 15 (0,0)).2).2.2)
 else if iJ s (dR s (partsOf (aG s 15 (0,0)).1) {zM with k:=(aG s 15 (0,0)).1} (aG s 15 (0,0)).2).2.1≠0 then (zM,iJ s (dR s (partsOf (aG s 15 (0,0)).1) {zM with k:=(aG s 15 (0,0)).1} (aG s 15 (0,0)).2).2.1)
 else if dP (dR s (partsOf (aG s 15 (0,0)).1) {zM with k:=(aG s 15 (0,0)).1} (aG s 15 (0,0)).2).1≠0 then (zM,dP (dR s (partsOf (aG s 15 (0,0)).1) {zM with k:=(aG s 15 (0,0)).1} (aG s 15 (0,0)).2).1)
 else((dR s (partsOf (aG s 15 (0,0)).1) {zM with k:=(aG s 15 (0,0)).1} (aG s 15 (0,0)).2).1,0)
structure dF(W:World)(B:Nat)(x:aO):Prop where
 m:Src W 2 x.mA x.ms.length (dL x.ms)
 mc:x.ms.length<=x.mc
 mn:∀ad,x.mA=some ad->B<=ad.block
 ml:x.ms.length<=4
 o:Src W 3 x.oA x.ops.length (cells x.ops)
 oc:x.ops.length<=x.oc
 on:∀ad,x.oA=some ad->B<=ad.block
 e:Src W 4 x.eA x.es.length (kM x.es)
 ec:x.es.length<=x.ec
 en:∀ad,x.eA=some ad->B<=ad.block
 el:x.es.length<=4
 eo:lu W B x.es
 s:bV 22 1 B W x.sA x.ss.length x.sc (rH x.ss)
 sl:x.ss.length<=100
 so:∀y∈x.ss,0<=y/\y<=aY
 p:Src W 2 x.pA x.ps.length (bI x.ps)
 pc:x.ps.length<=x.pc
 pn:∀ad,x.pA=some ad->B<=ad.block
 pl:x.ps.length<=32
 t:(0<=x.at'/\x.at'<=aY)/\(0<=x.last/\x.last<=aY)/\(0<=x.mG/\x.mG<=aY)
 s0:x.ss=[]->x.sA=none/\x.sc=0
 pm:x.pc<=maxLen
theorem dF.kept{W W':World}{B:Nat}{x:aO}{F:Nat->Prop}(h:dF W B x)(hk:Kept F W W')(hF:∀k,F k->k<B):dF W' B x:=by
 have hs:∀(A:Option Addr),(∀ad,A=some ad->B<=ad.block)->∀ad,A=some ad->¬F ad.block:=fun A hA ad e hf=>by have:=hA ad e;have:=hF _ hf;omega
 exact⟨h.m.kept hk (hs _ h.mn),h.mc,h.mn,h.ml,h.o.kept hk (hs _ h.on),h.oc,h.on,h.e.kept hk (hs _ h.en),h.ec,h.en,h.el,h.eo.kept hk hF,⟨aP h.s.1 hk (fun k hk hf=>by have:=h.s.2 k hk;have:=hF _ hf;omega),h.s.2⟩,h.sl,h.so,h.p.kept hk (hs _ h.pn),h.pc,h.pn,h.pl,h.t,h.s0,h.pm⟩
theorem dF.ok{W:World}{B:Nat}{x:aO}(h:dF W B x):pU W x:=
 ⟨h.m,h.mc,Nat.le_trans h.ml (by decide),h.o,h.e,fun y hy=>⟨(h.eo y hy).1,(h.eo y hy).2.2.2⟩,Nat.le_trans h.el (by decide),Src.fA h.s.1,Nat.le_trans h.sl (by decide),h.so,h.p,Nat.le_trans h.pl (by decide),h.t⟩
structure MS(w:World)(s:ByteArray)(g mb y:Nat)(W:World)(x:aO)(r:RS):Prop where
 rd:iH W g s r
 hm:Has W mb 63 (au x).toArray
 hy:Has W y 63 (au zM).toArray
 at':dF W (mb+1) x
 k:Kept (fun k=>k=g\/k=mb) w W
structure Od(w:World)(g mb y:Nat):Prop where
 yg:y<g
 gm:g<mb
section
variable{w W W':World}{s:ByteArray}{g mb y:Nat}{x x':aO}{r r':RS}{v:Value}{e:Ending}
theorem MS.read(o:Od w g mb y)(h:MS w s g mb y W x r)(hr:zx W g s v r' e W'):e=.returned v/\MS w s g mb y W' x r':=by obtain⟨he,h1,h2⟩:=hr;have a:=o.yg;have b:=o.gm;exact⟨he,h1,h.hm.kept h2 (by omega),h.hy.kept h2 (by omega),h.at'.kept h2 (fun k hk=>by omega),h.k.trans h2 (fun i hi=> .inl (.inl hi))⟩
theorem MS.quiet(h:MS w s g mb y W x r)(hk:Kept aj W W'):MS w s g mb y W' x r:=
 ⟨h.rd.kept hk (fun z=>z),h.hm.kept hk (fun z=>z),h.hy.kept hk (fun z=>z),h.at'.kept hk (fun _ z=>z.elim),h.k.trans hk (fun _ z=>z.elim)⟩
theorem MS.base{w2:World}(h:MS w s g mb y W x r)(hk:Kept (fun k=>k=g\/k=mb) w2 W):MS w2 s g mb y W x r:={h with k:=hk}
theorem MS.put(o:Od w g mb y)(h:MS w s g mb y W x r){i:Nat}{u:Value}(he:(au x).toArray.setIfInBounds i u=(au x').toArray)(hx:∀W',Kept (fun k=>k=mb) W W'->dF W' (mb+1) x'):MS w s g mb y (W.setCell ⟨mb,i,none⟩ u) x' r:=by have a:=o.yg;have b:=o.gm;have hk:Kept (fun k=>k=mb) W (W.setCell ⟨mb,i,none⟩ u):=(Kept.refl _ W).put (.inl rfl);exact⟨h.rd.kept hk (by omega),Has.aQ h.hm he,h.hy.kept hk (by omega),hx _ hk,h.k.trans hk (fun i hi=> .inl (.inr hi))⟩
def gG(w:World)(s:ByteArray)(g mb y c:Nat)(x:aO)(r:RS)(e:Ending)(W':World):Prop:=
 ∃x',e=.returned (.int .i64 (bG s c (strip x) r).2.2)/\((bG s c (strip x) r).2.2=0->strip x'=(bG s c (strip x) r).1)/\MS w s g mb y W' x' (bG s c (strip x) r).2.1
theorem XY(x:aO){c:Nat}(hc:isNum c=true)(v:Int):(au x).toArray.setIfInBounds (numAt c) (.int .i64 v)=(au (ou x c v)).toArray/\(au x).toArray[numAt c]? =some (.int .i64 (mP x c))/\strip (ou x c v)=ou (strip x) c v:=by have h:c=101\/c=115\/c=114\/c=110\/c=109\/c=112:=of_decide_eq_true hc;rcases h with rfl|rfl|rfl|rfl|rfl|rfl;all_goals exact⟨rfl,rfl,rfl⟩
theorem dF.ou{B:Nat}(h:dF W B x){c:Nat}(hc:isNum c=true)(v:Int):dF W B (ou x c v):=by have hh:c=101\/c=115\/c=114\/c=110\/c=109\/c=112:=of_decide_eq_true hc;rcases hh with rfl|rfl|rfl|rfl|rfl|rfl;all_goals exact⟨h.m,h.mc,h.mn,h.ml,h.o,h.oc,h.on,h.e,h.ec,h.en,h.el,h.eo,h.s,h.sl,h.so,h.p,h.pc,h.pn,h.pl,h.t,h.s0,h.pm⟩
theorem VB(o:Od w g mb y)(h:MS w s g mb y W x r)(hs:s.size<=maxLen){c:Nat}(hc:isNum c=true):
  Calls Tryz.prog 60 #[.pointer (some ⟨g,0,none⟩),.pointer (some ⟨mb,0,none⟩),.int .i32 c] W (gG w s g mb y c x r):=by
 have hnum:=fun W=>FN W mb c hc;have hrd:=oZ W g s r 1073741824 h.rd hs (by decide);have hp:bG s c (strip x) r=(ou (strip x) c (aG s 1073741824 r).1,(aG s 1073741824 r).2,(aG s 1073741824 r).2.2):=by unfold bG;rw[if_pos hc]
 unfold gG;rw[hp];obtain⟨q,hq⟩:∃q,aG s 1073741824 r=q:=⟨_,rfl⟩;rw[hq]at hrd⊢;obtain⟨n,r2⟩:=q;dsimp only at hrd⊢;obtain⟨e1,e2,e3⟩:=XY x hc (n:Int);obtain⟨ix,hix⟩:∃ix,numAt c=ix:=⟨_,rfl⟩;rw[hix]at e1 e2;simp only[hix]at hnum;have HN:=ah hnum;have fV:=ah hrd;have H:=ah h;have WG:=ah (And.intro e1 e3);have HE2:=ah e2;have HO:=ah o;have HC:=ah hc;clear hnum hrd h e1 e2 e3 hq hix hp o hc;go_enter Tryz.func60,Tryz.ntmps60;go_wp2_with fail;refine(HN.out W).mono ?_;rintro e w2 ⟨rfl,rfl⟩;go_wp2_with fail;refine fV.out.mono ?_;intro e w3 hr;obtain⟨rfl,hm⟩:=H.out.read HO.out hr;have q:w3.cell? ⟨mb,ix,none⟩=some (.int .i64 (mP x c)):=(hm.hm.cell ix).trans HE2.out;have f:=hm.hm.frozen ix;have hm2:=hm.put HO.out WG.out.1 (fun W' hk=>(hm.at'.kept hk (fun k hk=>by omega)).ou HC.out _);have HM:=ah hm2;clear hr hm hm2;go_wp2_with fail;refine(fU _ g s r2 HM.out.rd).mono ?_;rintro e w4 ⟨rfl,rfl⟩;go_wp2;go_ret;exact⟨_,rfl,fun _=>WG.out.2,HM.out⟩

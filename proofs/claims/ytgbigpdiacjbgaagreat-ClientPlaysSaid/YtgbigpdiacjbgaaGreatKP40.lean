/- Part 41. -/
import Derived.Test.YtgbigpdiacjbgaaGreatKP39
set_option linter.unusedSimpArgs false
set_option linter.unusedVariables false
set_option maxHeartbeats 32000000
set_option maxRecDepth 100000
namespace Go.Proofs.YtgbigpdiacjbgaaGreat
open Go.RowKit
namespace Cli
open bg Ops fG eP Vn Go.Proofs.YtgbigpdiacjbgaaGreat.Ask
def Es:iZ:=⟨4,0,emp,emp,3,0,none,0,[]⟩
theorem Ym:newE 1 1 Es=0:=by decide
theorem TN(w:World):uZ w Es:=⟨Src.nil _ _ _,Nat.le_refl _,by show(0:Nat)<=maxLen;exact Nat.zero_le _,(fun o ho=>by cases ho),by unfold I64;decide,by unfold I64;decide,by unfold I64;decide,by show(0:Int)<=3/\(3:Int)<=aY;unfold aY;decide,Nat.zero_le _,Nat.zero_le _⟩
theorem aaq{id:Int}(h:0<=id/\id<3):Oa (BR id):=⟨h,by show(0:Int)<=0/\(0:Int)<=1073741824;decide,by show(0:Int)<=0/\(0:Int)<=1073741824;decide,by show(-1:Int)<= -1/\(-1:Int)<=4;decide,(fun t e=>by cases e),Nat.zero_le _,by show(0:Int)<=0/\(0:Int)<=1073741824;decide⟩
theorem abK:dP {bP with k:=11,req:=1,at':=3}=0:=by decide
theorem aar:wZ (BR 1) Es=[⟨4,mB (nH {bP with k:=11,req:=1,at':=3})⟩]:=by have e:aJ (newT 1 1 Es) 0 (-1)=(4,{bP with k:=11,req:=1,at':=3}):=rfl;show bn [] (aJ (newT 1 1 Es) 0 (-1)).1 (aJ (newT 1 1 Es) 0 (-1)).2=_;rw[e];unfold bn;rw[if_pos ⟨abK,by decide⟩];rfl
theorem Yn(w:World):Calls Tryz.prog 7 #[] w fun e w'=>e=.returned (.bool true)/\Kept aj w w':=by
 have hnew:=(LM w 1).mono fun e w' hp=>hp.2 (by decide);have mF:=ah hnew;clear hnew;go_enter Tryz.func7,Tryz.ntmps7;go_wp2_with fail;refine mF.out.mono ?_;rintro e w1 ⟨X,rfl,hc,hf,hk1⟩;have hst:=LU hc (aaq (by decide)) Es (TN w1) (by decide) rfl Ym;unfold En at hst;rw[aar]at hst;unfold pN bQ Es at hst;dsimp only[List.length_nil]at hst;obtain⟨cb,hcb⟩:∃cb,X.cb=cb:=⟨_,rfl⟩;rw[hcb]at hst⊢;have HST:=ah hst;have HF:=ah hf;have iL:=ah hk1;have cu:=ah hcb;clear hst hc hf hk1 hcb mF;go_wp2_with fail;refine HST.out.mono ?_;rintro e w2 ⟨X',A,c,rfl,hs,ho⟩;have hbz:=FV hs.at';have hrq:=Iq hs.at';rw[hs.cb,cu.out]at hbz hrq;have hbz:Calls Tryz.prog 14 #[.pointer (some ⟨cb,0,none⟩)] w2 fun e w'=>e=.returned (.bool true)/\w2=w':=hbz;have hrq:Calls Tryz.prog 13 #[.pointer (some ⟨cb,0,none⟩)] w2 fun e w'=>e=.returned (.int .i64 1)/\w2=w':=hrq;obtain⟨ad,rfl,had,hcell⟩:=(Src.fA ho.1).2 (by decide);have d0:w2.cell? ad=some (.int .i64 4):=by
  have:=hcell 0 _ rfl;have e1:ad.add 0=ad:=by unfold Addr.add;simp
  rwa[e1]at this
 have hbk:Kept aj w w2:=iL.out.trans hs.k (fun k hk=> .inr (HF.out k hk));have L6:=ah hbz;have HRQ:=ah hrq;have HBK:=ah hbk;clear hbz hrq hbk hs ho hcell had HF iL cu HST;go_wp2_with fail;refine L6.out.mono ?_;rintro e w3 ⟨rfl,rfl⟩;go_wp2_with fail;refine HRQ.out.mono ?_;rintro e w3 ⟨rfl,rfl⟩;go_wp2;go_ret;exact⟨rfl,HBK.out⟩
attribute [local go_sem↓] qB
end Cli
namespace Ask
open bg Ops fG eP MO Vn
def DI(t:TS):Prop:=t.ph=0->t.key=t.a.key/\t.ps=[]
theorem DI.new(cl rq:Int)(a:iZ):DI (newT cl rq a):=fun _=>⟨rfl,rfl⟩
theorem DI.tick{t:TS}(h:DI t):DI (bu t).1:=by
 unfold bu;split
 ·exact h
 split
 ·exact h
 ·exact h
theorem DI.take{t:TS}(h:DI t)(f:Int)(x:aO):DI (aI t f x).1:=by
 unfold aI;split
 ·exact h
 split
 ·unfold lN;split
  ·exact h
  split
  ·exact h
  split
  ·exact h
  ·intro e;cases e
 split
 ·rename_i h1;unfold je;split
  ·exact h
  split
  ·exact h
  split
  ·exact h
  ·unfold ig;split
   ·intro e;have e':t.ph=0:=e;omega
   ·intro e;have e':t.ph=0:=e;omega
 ·unfold takeA;split
  ·exact h
  split
  ·exact h
  ·exact h
theorem TP{t:TS}(h:DI t)(h0:t.ph=0)(x:aO):lN t x=if x.k=7/\x.e=16 then (eG t ⟨0,x.e,0,0,[]⟩,false)else if x.k≠6 then (t,false)else if t.a.k=0 then (eG t ⟨0,0,x.at',0,[]⟩,false)else({t with ph:=1,at':=x.at',waits:=0},true):=by obtain⟨h1,h2⟩:=h h0;unfold lN;rw[<-h1,<-h2]
end Ask
namespace Xm
open bg Ops fG eP Vn Go.Proofs.YtgbigpdiacjbgaaGreat.Ask bJ qh
def L8(x y:aO)(c:Nat):aO:=
 if isNum c=true then ou y c (mP x c)
 else if c=66 then {y with o7:=x.o7,lK:=x.lK,ops:=x.ops}
 else if c=97 then {y with at':=x.at'}
 else if c=107 then {y with key:=x.key}
 else if c=116 then {y with to:=x.to}
 else y
theorem L9(x:aO):bT x 66=dA (wK (jU x)):=rfl
theorem TQ{s:ByteArray}{i:Nat}{l:List UInt8}{x:aO}(y:aO){c:Nat}(hc:c∈wR)(hw:aT x c=0)(ht:0<=x.at'/\x.at'<=aY)(hR:Ops.Rest s i (bT x c++l)):bG s c y (i,0)=(L8 x y c,(i+(bT x c).length,0),0):=by
 unfold wR at hc;simp only[List.mem_cons,List.not_mem_nil,or_false]at hc;have hnum:isNum c=true->bG s c y (i,0)=(L8 x y c,(i+(bT x c).length,0),0):=fun hn=>by
  have hp:bT x c=put (mP x c).toNat:=by unfold bT;rw[if_pos hn]
  have hr:¬(mP x c<0\/1073741824<mP x c):=by intro h;unfold aT qM at hw;rw[if_pos hn,if_pos h]at hw;cases hw
  rw[hp]at hR;have g:=BM (most:=1073741824) hR (by omega) (by decide);unfold bG L8;rw[if_pos hn,if_pos hn,g,hp];dsimp only;rw[Int.toNat_of_nonneg (by omega)]
 rcases hc with rfl|rfl|rfl|rfl|rfl|rfl|rfl
 ·exact hnum rfl
 ·exact hnum rfl
 ·exact hnum rfl
 ·have g:=zX (t:=x.key) (most:=8) hR (by
   have h1:¬8<x.key.size:=fun h=>by
    have h2:aT x 107=3:=by unfold aT;rw[if_neg (by decide),if_neg (by decide),if_pos rfl,if_pos h]
    rw[h2]at hw;cases hw
   omega) (by decide)
  have e:bG s 107 y (i,0)=({y with key:=(aN s 8 (i,0)).1},(aN s 8 (i,0)).2,(aN s 8 (i,0)).2.2):=rfl;rw[e,g];rfl
 ·have g:=zX (t:=x.to) (most:=8) hR (by
   have h1:¬8<x.to.size:=fun h=>by
    have h2:aT x 116=3:=by unfold aT;rw[if_neg (by decide),if_neg (by decide),if_neg (by decide),if_pos rfl,if_pos h]
    rw[h2]at hw;cases hw
   omega) (by decide)
  have e:bG s 116 y (i,0)=({y with to:=(aN s 8 (i,0)).1},(aN s 8 (i,0)).2,(aN s 8 (i,0)).2.2):=rfl;rw[e,g];rfl
 ·have g:=Ib (n:=x.at'.toNat) hR (by unfold aY at ht;omega);have e:bG s 97 y (i,0)=({y with at':=(bD s (i,0)).1},(bD s (i,0)).2,(bD s (i,0)).2.2):=rfl;rw[e,g];dsimp only;rw[Int.toNat_of_nonneg ht.1];rfl
 ·have hb:Ops.chk (jU x)=0:=hw;have hbr:wK (jU x)=fE (vH (jU x)):=by unfold wK;rw[if_pos hb]
  have hlen:=xU (jU x);rw[L9]at hR;have g:=zX (most:=65536) hR (by omega) (by decide);have e:bG s 66 y (i,0)=({y with o7:=(lS s (i,0)).1.cl,lK:=(lS s (i,0)).1.req,ops:=(lS s (i,0)).1.ops},(aN s 65536 (i,0)).2,(lS s (i,0)).2):=rfl;have hi:lS s (i,0)=(jU x,0):=by unfold lS;rw[g,if_neg (by simp)];show pq (wK (jU x))=_;rw[hbr];exact U7 _ hb
  rw[e,g,hi,L9];rfl
theorem TR{s:ByteArray}{x:aO}(ht:0<=x.at'/\x.at'<=aY)(l:List Nat)(hl:∀c∈l,c∈wR/\aT x c=0):∀(i:Nat) (y:aO),Ops.Rest s i (l.flatMap (bT x))->dR s l y (i,0)=(l.foldl (L8 x) y,(i+(l.flatMap (bT x)).length,0),0):=by
 induction l with
 |nil=>intro i y _;rfl
 |cons c l ih=>
  intro i y hR;rw[List.flatMap_cons]at hR;have h1:=TQ y (hl c (List.mem_cons_self ..)).1 (hl c (List.mem_cons_self ..)).2 ht hR;rw[dR,h1,if_neg (by simp)];dsimp only;rw[ih (fun c hc=>hl c (List.mem_cons_of_mem _ hc)) _ _ hR.step,List.foldl_cons,List.flatMap_cons,lA0,Nat.add_assoc]
theorem Ir{x:aO}(hk:x.k=5\/x.k=8\/x.k=9\/x.k=11\/x.k=12\/x.k=13\/x.k=15):isKind x.k=true:=by unfold isKind;apply decide_eq_true;omega
theorem Yo{x:aO}(hk:x.k=5\/x.k=8\/x.k=9\/x.k=11\/x.k=12\/x.k=13\/x.k=15):dP ((partsOf x.k).foldl (L8 x) {zM with k:=x.k})=dP x:=by
 have hx:∃k,x.k=k:=⟨_,rfl⟩;obtain⟨k,e⟩:=hx;rw[e]at hk⊢;have hkn:dP x=if isKind k=true then bK (aT x) (partsOf k)else 11:=by unfold dP;rw[e]
 rw[hkn];rcases hk with rfl|rfl|rfl|rfl|rfl|rfl|rfl;all_goals rfl
theorem Yp{x:aO}(hk:x.k=5\/x.k=8\/x.k=9\/x.k=11\/x.k=12\/x.k=13\/x.k=15)(ht:0<=x.at'/\x.at'<=aY)(hc:dP x=0):(ofM (nH x)).2=0:=by
 have hmr:nH x=fE (Bg x):=by unfold nH;rw[if_pos hc]
 obtain⟨_,hwr⟩:=zH hc;have hin:∀c∈partsOf x.k,c∈wR/\aT x c=0:=fun c h=>⟨(yK hk c h).1,hwr c h⟩;have hR:Ops.Rest (nH x) 0 (put x.k.toNat++(partsOf x.k).flatMap (bT x)):=⟨[],by rw[hmr,lH];rfl,rfl⟩;have g0:=BM (most:=15) hR (by omega) (by decide);have hR1:=hR.step;rw[Nat.zero_add]at g0 hR1;have hend:=hR1.le;have ek:((x.k.toNat:Nat):Int)=x.k:=Int.toNat_of_nonneg (by omega);have g1:=TR ht (partsOf x.k) hin _ {zM with k:=x.k} hR1;unfold ofM;rw[g0];dsimp only;rw[if_neg (by simp),ek,Ir hk,if_neg (by decide),g1];dsimp only;rw[if_neg (by simp)];have ge:iJ (nH x) ((put x.k.toNat).length+((partsOf x.k).flatMap (bT x)).length,0)=0:=by unfold iJ;rw[if_neg (by simp),if_neg (by dsimp only;omega)]
 rw[ge,if_neg (by simp),Yo hk,hc,if_neg (by simp)]
end Xm
namespace Cli
open bg Ops fG eP Vn Go.Proofs.YtgbigpdiacjbgaaGreat.Ask
structure Mc(C:dh)(t:TS):Prop where
 j:pK t
 a:atOk t
 d:DI t
 dn:t.dn=false
 rq:t.rq=C.req
structure gI(C:dh):Prop where
 id:0<=C.id/\C.id<3
 req:0<=C.req/\C.req<=1073741824
 ep:0<=C.ep/\C.ep<=1073741824
 hd: -1<=C.hd/\C.hd<=3
 t:∀t,C.t=some t->Mc C t
 r:C.r.ps.length<=1000
 tk:0<=C.tk/\C.tk<=1073741824
 has:C.has=true->C.r.req<=C.req/\(C.t.isSome=true->C.r.req<C.req)
theorem pK.bo{t:TS}(h:pK t):t.bo.length<=1000:=Nat.le_trans (Ops.sZ h.b).2.2.2.2.1 (by decide)
theorem gI.ok{C:dh}(h:gI C):Oa C:=
 ⟨h.id,h.req,h.ep,⟨h.hd.1,by have:=h.hd.2;omega⟩,fun t e=>⟨(h.t t e).j.ok,pK.bo (h.t t e).j,(h.t t e).j.rl⟩,h.r,h.tk⟩
theorem gI.new{id:Int}(h:0<=id/\id<3):gI (BR id):=
 ⟨h,⟨Int.le_refl _,by show(0:Int)<=1073741824;decide⟩,⟨Int.le_refl _,by show(0:Int)<=1073741824;decide⟩,⟨Int.le_refl _,by show(-1:Int)<=3;decide⟩,fun t e=>(by cases e),Nat.zero_le _,⟨Int.le_refl _,by show(0:Int)<=1073741824;decide⟩,fun e=>by cases e⟩
structure Once(C C':dh):Prop where
 done:C.t.isSome=true->C'.t=none->C'.has=true/\C'.r.req=C.req
 same:(C.t.isSome=true->C'.t.isSome=true)->C'.has=C.has/\C'.r=C.r
theorem Once.refl(C:dh):Once C C:=⟨fun h e=>(by rw[e]at h;cases h),fun _=>⟨rfl,rfl⟩⟩
def JM(k:Int):Prop:=k=5\/k=8\/k=9\/k=11\/k=12\/k=13\/k=15
def aa1(o:dS):Prop:=0<=o.to/\o.to<=4/\∃s,o.body=mB s/\(bJ.ofM s).2=0/\s.size<=100000
def jP(l:List dS):Prop:=∀o∈l,aa1 o
theorem jP.nil:jP []:=fun o h=>by cases h
theorem JB{t:TS}(h:pK t)(hdn:t.dn=false)(ha:atOk t)(ep:Int){hd:Int}(hh:hd<=3):(aJ t ep hd).1<=4/\JM (aJ t ep hd).2.k/\(0<=(aJ t ep hd).2.at'/\(aJ t ep hd).2.at'<=aY):=by
 have z0:(0:Int)<=0/\(0:Int)<=aY:=by unfold aY;decide
 unfold aJ;rw[if_neg (by rw[hdn];decide)];split
 ·split
  ·exact⟨by decide,.inr (.inr (.inr (.inr (.inr (.inr rfl))))),z0⟩
  ·exact⟨by show hd<=4;omega,.inl rfl,z0⟩
 split
 ·rename_i hp;have hnd:=h.nd (h.p1 hp);split
  ·exact⟨by show t.a.nd<=4;omega,.inr (.inr (.inl rfl)),ha.1⟩
  ·exact⟨by show t.a.nd<=4;omega,.inr (.inl rfl),ha.1⟩
 split
 ·exact⟨Int.le_refl 4,.inr (.inr (.inr (.inl rfl))),ha.2⟩
 split
 ·exact⟨Int.le_refl 4,.inr (.inr (.inr (.inr (.inl rfl)))),z0⟩
 ·exact⟨Int.le_refl 4,.inr (.inr (.inr (.inr (.inr (.inl rfl))))),z0⟩
theorem JC{x:aO}(ht:0<=x.at'/\x.at'<=aY){c:Nat}(hc:c∈wR)(hw:aT x c=0):(bT x c).length<=112:=by
 have hnum:isNum c=true->(bT x c).length<=112:=fun hn=>by
  have hp:bT x c=put (mP x c).toNat:=by unfold bT;rw[if_pos hn]
  have hr:¬(mP x c<0\/1073741824<mP x c):=by intro h;unfold aT qM at hw;rw[if_pos hn,if_pos h]at hw;cases hw
  rw[hp];exact Nat.le_trans (dJ (by omega)) (by decide)
 unfold wR at hc;simp only[List.mem_cons,List.not_mem_nil,or_false]at hc;rcases hc with rfl|rfl|rfl|rfl|rfl|rfl|rfl
 ·exact hnum rfl
 ·exact hnum rfl
 ·exact hnum rfl
 ·have h1:¬8<x.key.size:=fun h=>by
   have h2:aT x 107=3:=by unfold aT;rw[if_neg (by decide),if_neg (by decide),if_pos rfl,if_pos h]
   rw[h2]at hw;cases hw
  exact Nat.le_trans (lF (s:=x.key) (m:=8) (by omega) (by decide)) (by decide)
 ·have h1:¬8<x.to.size:=fun h=>by
   have h2:aT x 116=3:=by unfold aT;rw[if_neg (by decide),if_neg (by decide),if_neg (by decide),if_pos rfl,if_pos h]
   rw[h2]at hw;cases hw
  exact Nat.le_trans (lF (s:=x.to) (m:=8) (by omega) (by decide)) (by decide)
 ·exact Nat.le_trans (dJ (n:=x.at'.toNat) (by unfold aY at ht;omega)) (by decide)
 ·exact Nat.le_trans (lF (s:=wK (jU x)) (m:=103) (xU _) (by decide)) (by decide)
theorem Iu{x:aO}(hk:JM x.k)(ht:0<=x.at'/\x.at'<=aY)(hc:dP x=0):(bJ.ofM (nH x)).2=0/\(nH x).size<=100000:=by refine⟨Xm.Yp hk ht hc,?_⟩;obtain⟨_,hwr⟩:=zH hc;have h1:=oW (bT x) (partsOf x.k) 112 (fun c h=>JC ht (yK hk c h).1 (hwr c h));have h2:=pV x.k;have h3:=dJ (n:=x.k.toNat) (by unfold JM at hk;omega);unfold nH;rw[if_pos hc];show(Bg x).toArray.size<=_;rw[List.size_toArray];unfold Bg;rw[lA0];omega
theorem jP.put{L:List dS}(h:jP L){to:Int}{m:aO}(ht:to<=4)(hk:JM m.k)(ha:0<=m.at'/\m.at'<=aY):jP (bn L to m):=by
 unfold bn;split
 ·rename_i hc;intro o ho;rcases List.mem_append.1 ho with ho|ho
  ·exact h o ho
  ·rw[List.mem_singleton]at ho;subst ho;exact⟨hc.2,ht,_,rfl,(Iu hk ha hc.1).1,(Iu hk ha hc.1).2⟩
 ·exact h
theorem jP.next{L:List dS}(h:jP L){t:TS}(hj:pK t)(hdn:t.dn=false)(ha:atOk t)(ep:Int){hd:Int}(hh:hd<=3):jP (bn L (aJ t ep hd).1 (aJ t ep hd).2):=
 have hn:=JB hj hdn ha ep hh
 h.put hn.1 hn.2.1 hn.2.2
def jq(C:dh)(a:iZ):dh×List dS×Int:=
 if C.t.isSome=true then (C,[],20)else if newE C.id (C.req+1) a≠0 then (C,[],newE C.id (C.req+1) a)else(uz C a,wZ C a,0)
theorem Yr{cl rq:Int}{a:iZ}(h:newE cl rq a=0):1<=rq/\rq<=1073741824:=by
 unfold newE at h;split at h
 ·cases h
 split at h
 ·cases h
 ·omega
theorem Mc.new{C:dh}{a:iZ}(hn:I64 a.n)(hat:0<=a.at'/\a.at'<=aY)(hz:newE C.id (C.req+1) a=0):Mc (uz C a) (newT C.id (C.req+1) a):=
 ⟨pK.new hn hz,⟨hat,hat⟩,DI.new _ _ _,rfl,rfl⟩
theorem gI.start{C:dh}(h:gI C){a:iZ}(hn:I64 a.n)(hat:0<=a.at'/\a.at'<=aY):gI (jq C a).1/\Once C (jq C a).1/\jP (jq C a).2.1:=by
 unfold jq;split
 ·exact⟨h,Once.refl _,jP.nil⟩
 rename_i ht
 have ht:C.t=none:=by cases e:C.t with
  |none=>rfl
  |some t=>exact absurd (by rw[e];rfl) ht
 split
 ·exact⟨h,Once.refl _,jP.nil⟩
 rename_i hz;have hz:newE C.id (C.req+1) a=0:=Classical.byContradiction hz;have hrq:=Yr hz;have gZ:=Mc.new (C:=C) hn hat hz;have h0:=h.req;refine⟨⟨h.id,⟨by show 0<=C.req+1;omega,hrq.2⟩,h.ep,h.hd,fun t e=>by injection e with e;subst e;exact gZ,h.r,h.tk,fun e=> ?_⟩,⟨fun e _=>(by rw[ht]at e;cases e),fun _=>⟨rfl,rfl⟩⟩,?_⟩
 ·have h1:=(h.has e).1;exact⟨by show C.r.req<=C.req+1;omega,fun _=>by show C.r.req<C.req+1;omega⟩
 ·exact jP.nil.next gZ.j gZ.dn gZ.a C.ep h.hd.2
theorem gI.see{C:dh}(h:gI C){t t':TS}(ht:C.t=some t)(hj:pK t')(ha:atOk t')(hd:DI t')(hrq:t'.rq=C.req):gI (jy {C with t:=some t'})/\Once C (jy {C with t:=some t'}):=by
 have hrd:=h.has;have hti:C.t.isSome=true:=by rw[ht];rfl
 cases hdn:t'.dn with
 |true=>
  have e:jy {C with t:=some t'}={C with r:=t'.r,has:=true,t:=none}:=by show(if t'.dn=true then _ else _)=_;rw[if_pos hdn];unfold pO;rw[if_pos hdn]
  have hq:=hj.rq hdn;rw[e];refine⟨⟨h.id,h.req,h.ep,h.hd,fun t e=>(by cases e),hj.rl,h.tk,fun _=>⟨?_,fun e=>by cases e⟩⟩,⟨fun _ _=>⟨rfl,?_⟩,fun e=>by have h1:=e hti;cases h1⟩⟩
  ·show t'.r.req<=C.req;omega
  ·show t'.r.req=C.req;omega
 |false=>
  have e:jy {C with t:=some t'}={C with t:=some t'}:=by show(if t'.dn=true then _ else _)=_;rw[if_neg (by rw[hdn];decide)]
  rw[e];exact⟨⟨h.id,h.req,h.ep,h.hd,fun t e=>by injection e with e;subst e;exact⟨hj,ha,hd,hdn,hrq⟩,h.r,h.tk,fun e=>⟨(hrd e).1,fun _=>(hrd e).2 hti⟩⟩,⟨fun _ e=>(by cases e),fun _=>⟨rfl,rfl⟩⟩⟩
theorem Yt(t:TS):(bu t).1.rq=t.rq:=by
 unfold bu;split
 ·rfl
 split
 ·rfl
 ·rfl
theorem Yu(t:TS)(f:Int)(x:aO):(aI t f x).1.rq=t.rq:=by
 unfold aI;split
 ·rfl
 split
 ·unfold lN;split
  ·rfl
  split
  ·rfl
  split
  ·rfl
  ·rfl
 split
 ·unfold je;split
  ·rfl
  split
  ·rfl
  split
  ·rfl
  ·unfold ig;split
   ·rfl
   ·rfl
 ·unfold takeA;split
  ·rfl
  split
  ·rfl
  ·rfl
theorem Ob{t:TS}(h:(bu t).2=true):(bu t).1.dn=false:=by
 unfold bu at h⊢;split at h
 ·cases h
 rename_i h1;rw[if_neg h1];split at h
 ·cases h
 rename_i h2;rw[if_neg h2];cases e:t.dn with
 |true=>exact absurd e h1
 |false=>rfl
theorem rX{t:TS}{f:Int}{x:aO}(h:(aI t f x).2=true):(aI t f x).1.dn=false:=by
 unfold aI at h⊢;split at h
 ·cases h
 rename_i h1;rw[if_neg h1]
 have hd:t.dn=false:=by cases e:t.dn with
  |true=>exact absurd (.inl e) h1
  |false=>rfl
 split at h
 ·rename_i p0;rw[if_pos p0];unfold lN at h⊢;split at h
  ·cases h
  rename_i g1;rw[if_neg g1];split at h
  ·cases h
  rename_i g2;rw[if_neg g2];split at h
  ·cases h
  rename_i g3;rw[if_neg g3];exact hd
 rename_i p0;rw[if_neg p0];split at h
 ·rename_i p1;rw[if_pos p1];unfold je at h⊢;split at h
  ·cases h
  rename_i g1;rw[if_neg g1];split at h
  ·cases h
  rename_i g2;rw[if_neg g2];split at h
  ·cases h
  rename_i g3;rw[if_neg g3];unfold ig at h⊢;split at h
  ·rename_i g4;rw[if_pos g4];exact hd
  ·cases h
 ·unfold takeA at h;split at h
  ·cases h
  split at h
  ·cases h
  ·cases h
theorem Md{C:dh}(h:gI C){t t':TS}(ht:C.t=some t)(hj:pK t')(ha:atOk t')(hd:DI t')(hrq:t'.rq=C.req)(hdn:t'.dn=false){tk:Int}{as':Bool}(htk:0<=tk/\tk<=1073741824):gI {C with t:=some t',tk:=tk,as':=as'}/\Once C {C with t:=some t',tk:=tk,as':=as'}:=by
 have hti:C.t.isSome=true:=by rw[ht];rfl
 exact⟨⟨h.id,h.req,h.ep,h.hd,fun t e=>by injection e with e;subst e;exact⟨hj,ha,hd,hdn,hrq⟩,h.r,htk,fun e=>⟨(h.has e).1,fun _=>(h.has e).2 hti⟩⟩,⟨fun _ e=>(by cases e),fun _=>⟨rfl,rfl⟩⟩⟩
theorem gI.tick{C:dh}(h:gI C):gI (iQ C).1/\Once C (iQ C).1/\jP (iQ C).2:=by
 cases ht:C.t with
 |none=>
  have e:iQ C=(C,[]):=by unfold iQ;rw[ht]
  rw[e];exact⟨h,Once.refl _,jP.nil⟩
 |some t=>
  have hv:=h.t t ht;have hj:=hv.j.tick;have ha:=hv.a.tick;have hd:=hv.d.tick;have hrq:(bu t).1.rq=C.req:=(Yt t).trans hv.rq;have htk:=h.tk;have hmin:0<=min (C.tk+1) 1073741824/\min (C.tk+1) 1073741824<=1073741824:=by omega
  have e:iQ C=if(bu t).2=false then (jy {C with t:=some (bu t).1},[])
   else if jr (bu t).1=false then ({C with t:=some (bu t).1},bn [] (aJ (bu t).1 C.ep C.hd).1 (aJ (bu t).1 C.ep C.hd).2)
   else if 0<=C.hd/\(C.as'=true\/(min (C.tk+1) 1073741824)%4=0)then ({C with t:=some (bu t).1,tk:=min (C.tk+1) 1073741824,as':=false},bn (bn [] (aJ (bu t).1 C.ep C.hd).1 (aJ (bu t).1 C.ep C.hd).2) 4 {bP with k:=15})
   else({C with t:=some (bu t).1,tk:=min (C.tk+1) 1073741824},bn [] (aJ (bu t).1 C.ep C.hd).1 (aJ (bu t).1 C.ep C.hd).2):=by
   unfold iQ;rw[ht]
  rw[e];clear e;by_cases hz:(bu t).2=false
  ·rw[if_pos hz];obtain⟨h1,h2⟩:=h.see ht hj ha hd hrq;exact⟨h1,h2,jP.nil⟩
  rw[if_neg hz]
  have hdn:=Ob (t:=t) (by cases e:(bu t).2 with
   |true=>rfl
   |false=>exact absurd e hz)
  have ho:=jP.nil.next hj hdn ha C.ep h.hd.2;split
  ·obtain⟨h1,h2⟩:=Md h ht hj ha hd hrq hdn (tk:=C.tk) (as':=C.as') htk;exact⟨h1,h2,ho⟩
  split
  ·obtain⟨h1,h2⟩:=Md h ht hj ha hd hrq hdn (as':=false) hmin;exact⟨h1,h2,ho.put (to:=4) (m:={bP with k:=15}) (Int.le_refl 4) (.inr (.inr (.inr (.inr (.inr (.inr rfl)))))) (by show(0:Int)<=0/\(0:Int)<=aY;unfold aY;decide)⟩
  ·obtain⟨h1,h2⟩:=Md h ht hj ha hd hrq hdn (as':=C.as') hmin;exact⟨h1,h2,ho⟩
theorem rY{s:ByteArray}(h:(bJ.ofM s).2=0):dP (bJ.ofM s).1=0:=by
 unfold bJ.ofM at h⊢;split at h
 ·rename_i g;exact absurd h g
 rename_i g1;rw[if_neg g1];split at h
 ·cases h
 rename_i g2;rw[if_neg g2];split at h
 ·rename_i g;exact absurd h g
 rename_i g3;rw[if_neg g3];split at h
 ·rename_i g;exact absurd h g
 rename_i g4;rw[if_neg g4];split at h
 ·rename_i g;exact absurd h g
 rename_i g5;rw[if_neg g5];exact Classical.byContradiction g5
theorem Iw{x:aO}(h:dP x=0)(hk:x.k=1):bg.chk x.fO x.ms=0:=by obtain⟨_,hwr⟩:=zH h;have h1:=hwr 67 (by rw[hk];decide);exact h1
theorem V6{ep:Int}{l:List Mem}(h:bg.chk ep l=0):0<=qL l/\qL l<=3:=by
 obtain⟨_,h1,_,h2⟩:=rG h;cases l with
 |nil=>exact absurd rfl h1
 |cons m r=>
  have h3:=h2.id m (List.mem_cons_self ..);show 0<=m.1/\m.1<=3;omega
theorem gI.learn{C:dh}(h:gI C)(f:Int){x:aO}(hx:dP x=0):gI (bC C f x).1/\(bC C f x).1.t=C.t/\(bC C f x).1.r=C.r/\(bC C f x).1.has=C.has/\(bC C f x).1.req=C.req:=by
 unfold bC;split
 ·rename_i hc;have hcc:=Iw hx hc.2.1;obtain⟨h1,-⟩:=rG hcc;have h2:=V6 hcc;exact⟨⟨h.id,h.req,⟨by show 0<=x.fO;omega,h1.2⟩,⟨by show-1<=qL x.ms;omega,h2.2⟩,fun t e=>⟨(h.t t e).j,(h.t t e).a,(h.t t e).d,(h.t t e).dn,(h.t t e).rq⟩,h.r,h.tk,h.has⟩,rfl,rfl,rfl,rfl⟩
 split
 ·exact⟨⟨h.id,h.req,h.ep,h.hd,fun t e=>⟨(h.t t e).j,(h.t t e).a,(h.t t e).d,(h.t t e).dn,(h.t t e).rq⟩,h.r,h.tk,h.has⟩,rfl,rfl,rfl,rfl⟩
 ·exact⟨h,rfl,rfl,rfl,rfl⟩
theorem gI.msg{C:dh}(h:gI C)(f:Int){x:aO}(hx:dP x=0)(hat:0<=x.at'/\x.at'<=aY):gI (aV C f x).1/\Once C (aV C f x).1/\jP (aV C f x).2:=by
 obtain⟨hl,lt,lr,lh,lq⟩:=h.learn f hx;cases ht:C.t with
 |none=>
  have e:aV C f x=((bC C f x).1,[]):=by unfold aV;rw[ht]
  rw[e];exact⟨hl,⟨fun e=>(by rw[ht]at e;cases e),fun _=>⟨lh,lr⟩⟩,jP.nil⟩
 |some t=>
  have hv:=h.t t ht
  have e:aV C f x=(jy {(bC C f x).1 with t:=some (aI t f x).1},
   if(aI t f x).2=true then bn (if(bC C f x).2=true/\jr t=true then bn [] (aJ t (bC C f x).1.ep (bC C f x).1.hd).1 (aJ t (bC C f x).1.ep (bC C f x).1.hd).2 else []) (aJ (aI t f x).1 (bC C f x).1.ep (bC C f x).1.hd).1 (aJ (aI t f x).1 (bC C f x).1.ep (bC C f x).1.hd).2
   else(if(bC C f x).2=true/\jr t=true then bn [] (aJ t (bC C f x).1.ep (bC C f x).1.hd).1 (aJ t (bC C f x).1.ep (bC C f x).1.hd).2 else [])):=by
   unfold aV;rw[ht]
  rw[e];clear e;obtain⟨C1,jQ⟩:∃C1,(bC C f x).1=C1:=⟨_,rfl⟩;obtain⟨lv,hlv⟩:∃lv,(bC C f x).2=lv:=⟨_,rfl⟩;rw[jQ]at hl lt lr lh lq⊢;rw[hlv];obtain⟨h1,h2⟩:=hl.see (lt.trans ht) (hv.j.take f x) (hv.a.take f hat) (hv.d.take f x) (((Yu t f x).trans hv.rq).trans lq.symm);have ho:jP (if lv=true/\jr t=true then bn [] (aJ t C1.ep C1.hd).1 (aJ t C1.ep C1.hd).2 else []):=by
   split
   ·exact jP.nil.next hv.j hv.dn hv.a C1.ep hl.hd.2
   ·exact jP.nil
  refine⟨h1,⟨fun e1 e2=> ?_,fun e1=> ?_⟩,?_⟩
  ·have h3:=h2.done (by rw[lt];exact e1) e2;exact⟨h3.1,h3.2.trans lq⟩
  ·have h3:=h2.same (fun e2=>e1 (by rw[<-lt];exact e2));exact⟨h3.1.trans lh,h3.2.trans lr⟩
  ·split
   ·rename_i g;exact ho.next (hv.j.take f x) (rX g) (hv.a.take f hat) C1.ep hl.hd.2
   ·exact ho
theorem gI.aa2{C:dh}(h:gI C)(f:Int)(s:ByteArray)(hat:0<=(bJ.ofM (s.extract 1 s.size)).1.at'/\(bJ.ofM (s.extract 1 s.size)).1.at'<=aY):gI (jk C f s).1/\Once C (jk C f s).1/\jP (jk C f s).2:=by
 unfold jk;split
 ·exact⟨h,Once.refl _,jP.nil⟩
 split
 ·exact⟨h,Once.refl _,jP.nil⟩
 ·rename_i g;exact h.msg f (rY (Classical.byContradiction g)) hat
end Cli
end Go.Proofs.YtgbigpdiacjbgaaGreat
namespace Go.Proofs.YtgbigpdiacjbgaaGreat
open Go.RowKit Go.Shelf
namespace Ops
open Vn iI
def Oc(w0:World)(x:Nat)(cs:Array Value)(g:Nat)(W:World)(bs:List UInt8):Prop:=
 w0.heap.size<=g/\x≠g/\lD W g bs/\Has W x 59 cs/\Kept aj w0 W
theorem Oc.step{w0 W w':World}{x g:Nat}{cs:Array Value}{bs bs':List UInt8}{e:Ending}(h:Oc w0 x cs g W bs)(hw:iY W g bs' e w'):e=.returned (.tuple #[])/\Oc w0 x cs g w' bs':=by obtain⟨h1,h2,h3,h4,h5⟩:=h;obtain⟨he,g1,g2⟩:=hw;exact⟨he,h1,h2,g1,h4.kept g2 h2,h5.trans g2 fun i hi=>by rw[hi];exact .inr h1⟩
theorem TT(w:World)(b:Batch)(A:Option Addr)(c:Nat)(hs:Src w 3 A b.ops.length (cells b.ops))(hcap:b.ops.length<=c):
  Calls Tryz.prog 155 #[nT b A c] w fun e w'=>e=.returned (.tuple #[.string (qy b),.int .i64 (chk b)])/\Kept aj w w':=by
 have iy:=fun W (hW:Kept aj w W)=>ng W b A c (hs.kept hW (fun _ _ x=>x)) hcap;have nX:=ah iy;clear iy;have HS:=ah hs;clear hs;by_cases hz:chk b=0;rotate_left
 ·have hr:qy b=emp:=by unfold qy;rw[if_neg hz]
  rw[hr];obtain⟨x,hx⟩:∃x,chk b=x:=⟨_,rfl⟩;rw[hx]at hz nX⊢;have hz2:(x !=0)=true:=by simpa using hz
  clear hx hr hz;go_enter Tryz.func155,Tryz.ntmps155;go_wp2_with fail;refine(nX.out _ (by(repeat'(first|(with_reducible first|exact ay|apply aA|apply aB|apply aC|apply aF)|(right;simp;done))))).mono ?_;rintro e w2 ⟨rfl,hk⟩;have hk2:=Kept.then (a:=w) (by(repeat'(first|(with_reducible first|exact ay|apply aA|apply aB|apply aC|apply aF)|(right;simp;done)))) hk;have gJ:=ah hk2;clear hk2 hk;go_wp2;go_ret2;exact⟨rfl,gJ.out⟩
 have hr:qy b=fE (vH b):=by unfold qy;rw[if_pos hz]
 rw[hr,hz];rw[hz]at nX;obtain⟨k1,k2,k3,k4,k5,k6⟩:=sZ hz;have hok:=EJ k6;obtain⟨cl,req,l⟩:=b;dsimp only at k1 k2 k3 k4 k5 k6 hok HS hcap;obtain⟨cn,rfl⟩:∃cn:Nat,cl=cn:=⟨cl.toNat,by omega⟩;obtain⟨rn,rfl⟩:∃rn:Nat,req=rn:=⟨req.toNat,by omega⟩;have hpb:vH ⟨cn,rn,l⟩=put cn++put rn++put l.length++l.flatMap bn:=rfl;rw[hpb];have wL:=ah hok;clear hok k6 hz hr hpb;have HB0:=ah (Has.new w 59 #[.int .i64 cn,.int .i64 rn,.slice A l.length c]);go_enter Tryz.func155,Tryz.ntmps155;go_wp2_with fail;refine(nX.out _ (by(repeat'(first|(with_reducible first|exact ay|apply aA|apply aB|apply aC|apply aF)|(right;simp;done))))).mono ?_;rintro e w2 ⟨rfl,hk⟩;have hb2:=Has.kept (F:=aj) HB0.out hk (fun x=>x);have hk2:=Kept.then (a:=w) (by(repeat'(first|(with_reducible first|exact ay|apply aA|apply aB|apply aC|apply aF)|(right;simp;done)))) hk;obtain⟨x,hx⟩:∃x,w.heap.size=x:=⟨_,rfl⟩;rw[hx]at hb2;have hxl:=hb2.lt;have d0:∀o,(w2.alloc o).cell? ⟨x,0,none⟩=some (.int .i64 cn):=fun o=>(hb2.alloc o).cell 0
 have hr0:∀o,Has (w2.alloc o) w2.heap.size 194 #[.string ⟨#[]⟩,.int .i64 0]->Oc w x #[.int .i64 cn,.int .i64 rn,.slice A l.length c] w2.heap.size (w2.alloc o) []:=
  fun o ho=>⟨hk2.size,by omega,ho,hb2.alloc o,hk2.alloc o⟩
 have hss:∀g W bs,Oc w x #[.int .i64 cn,.int .i64 rn,.slice A l.length c] g W bs->(W.cell? ⟨x,0,none⟩=some (.int .i64 cn)/\W.cell? ⟨x,1,none⟩=some (.int .i64 rn)/\W.cell? ⟨x,2,none⟩=some (.slice A l.length c)):=fun g W bs hW=>⟨hW.2.2.2.1.cell 0,hW.2.2.2.1.cell 1,hW.2.2.2.1.cell 2⟩;have qI:=ah hss;clear hss;have HR0:=ah hr0;clear hr0;have HX:=ah hx;rw[hx];clear hb2 hk2 hk nX HB0 hx;have p1:=nG (n:=cn) (by omega);have p2:=nG (n:=rn) (by omega);have p3:=nG (n:=l.length) (by omega);have HP:=ah (And.intro p1 (And.intro p2 p3));clear p1 p2 p3;obtain⟨hdr,vK⟩:∃hdr,put cn++put rn++put l.length=hdr:=⟨_,rfl⟩;have hdl:hdr.length<=27:=by rw[<-vK];have:=HP.out;simp only[lA0];omega
 have yX:=ah (And.intro vK hdl);clear vK hdl;have hle:=hxl;go_wp2_with fail;have hr1:=HR0.out _ (Has.new w2 194 #[.string ⟨#[]⟩,.int .i64 0]);have HR1:=ah hr1;clear hr1 HR0;refine(tJ _ w2.heap.size [] cn (by omega) HR1.out.2.2.1 (by simp)).mono ?_;intro e w3 hw;obtain⟨rfl,hr2⟩:=HR1.out.step hw;obtain⟨g,hg⟩:∃g,w2.heap.size=g:=⟨_,rfl⟩;rw[hg]at hr2;have HR2:=ah hr2;clear hr2 hw HR1 d0;obtain⟨b0,b1,b2⟩:=qI.out _ _ _ HR2.out;rw[hg];clear hg hle hxl;go_wp2_with fail;refine(tJ _ _ _ rn (by omega) HR2.out.2.2.1 (by have:=HP.out;simp;omega)).mono ?_;intro e w4 hw;obtain⟨rfl,hr3⟩:=HR2.out.step hw;have HR3:=ah hr3;clear hr3 hw HR2 b0 b1 b2;obtain⟨b0,b1,b2⟩:=qI.out _ _ _ HR3.out;go_wp2_with fail;refine(tJ _ _ _ l.length (by omega) HR3.out.2.2.1 (by have:=HP.out;simp;omega)).mono ?_;intro e w5 hw;obtain⟨rfl,hr4⟩:=HR3.out.step hw;rw[List.nil_append,yX.out.1]at hr4;have HR4:=ah hr4;clear hr4 hw HR3 b0 b1 b2 HP;go_wp2;go_loopw [6] (fun v6 wr=>∃i:Nat,i<=l.length/\v6=.int .i64 i/\Oc w x #[.int .i64 cn,.int .i64 rn,.slice A l.length c] g wr (hdr++(l.take i).flatMap bn)) (fun v6 _=>l.length-(intOf v6).toNat)
 case atStart=>exact⟨0,Nat.zero_le _,rfl,by simpa using HR4.out⟩
 case round=>
  obtain⟨i,hi,rfl,hws⟩:=hrel;obtain⟨b0,b1,b2⟩:=qI.out _ _ _ hws;have HW0:=ah hws;clear hws HR4;by_cases hil:i<l.length
  ·obtain⟨o,ho⟩:∃o,l[i]? =some o:=⟨_,lB0 hil⟩;have hoi:l[i]=o:=by rw[lB0 hil]at ho;exact Option.some.inj ho
   obtain⟨ad,rfl,had,e0,e1,e2⟩:=nU (HS.out.kept HW0.out.2.2.2.2 (fun _ _ x=>x)) (by omega) i o ho;have HO:=ah ho;clear ho;have jf:=qW bn l i hil;rw[hoi]at jf;have Sl:∀x∈l.take (i+1),(bn x).length<=19:=fun x hx=>mO (wL.out x (List.mem_of_mem_take hx)).2.1 (wL.out x (List.mem_of_mem_take hx)).2.2.1;have hfl:=xP _ Sl;rw[jf,lA0]at hfl;have hob:=wL.out o (by rw[<-hoi];exact List.getElem_mem hil);have hmin:(l.take (i+1)).length<=4:=by rw[List.length_take];omega
   have ru:(hdr++(l.take i).flatMap bn).length<=200:=by rw[lA0];have:=yX.out.2;omega
   obtain⟨cur,hcur⟩:∃cur,hdr++(l.take i).flatMap bn=cur:=⟨_,rfl⟩;rw[hcur]at HW0 ru;have hnext:hdr++(l.take (i+1)).flatMap bn=((cur++dA o.key)++sW o.del)++dA o.val:=by rw[jf,<-List.append_assoc,hcur];unfold bn;simp only[List.append_assoc]
   have jT:=ah hnext;clear hnext jf hfl Sl hcur hmin hoi;have um:=ah ru;clear ru;have Di:=ah hob;clear hob;have Sm:(dA o.key).length<=17:=by have h1:=nG (n:=o.key.size) (by have:=Di.out;omega);unfold dA;rw[lA0,iw];have:=Di.out;omega
   have AP:=ah Sm;clear Sm;have q0:(0:Int)<=(i:Int):=by omega
   go_wp2_with fail;refine(wH _ _ _ o.key HW0.out.2.2.1 (by have:=um.out;have:=Di.out;omega)).mono ?_;intro e w6 hw;obtain⟨rfl,xN⟩:=HW0.out.step hw;have HW1:=ah xN;clear xN hw HW0 b0 b1 b2 e0 e1 e2;obtain⟨b0,b1,b2⟩:=qI.out _ _ _ HW1.out;obtain⟨ad1,FX,hlt1,e0,e1,e2⟩:=nU (HS.out.kept HW1.out.2.2.2.2 (fun _ _ x=>x)) (by omega) i o HO.out;injection FX with FX;subst FX;go_wp2_with fail;refine(Ol _ _ _ o.del HW1.out.2.2.1 (by have:=um.out;have:=AP.out;simp;omega)).mono ?_;intro e w7 hw;obtain⟨rfl,xN⟩:=HW1.out.step hw;have HW2:=ah xN;clear xN hw HW1 b0 b1 b2 e0 e1 e2;obtain⟨b0,b1,b2⟩:=qI.out _ _ _ HW2.out;obtain⟨ad1,FX,hlt2,e0,e1,e2⟩:=nU (HS.out.kept HW2.out.2.2.2.2 (fun _ _ x=>x)) (by omega) i o HO.out;injection FX with FX;subst FX;go_wp2_with fail;refine(wH _ _ _ o.val HW2.out.2.2.1 (by have:=um.out;have:=AP.out;have:=Di.out;simp[sW];omega)).mono ?_;intro e w8 hw;obtain⟨rfl,xN⟩:=HW2.out.step hw;rw[<-jT.out]at xN;have HW3:=ah xN;clear xN hw HW2 b0 b1 b2 e0 e1 e2;go_wp2;go_roundw
   case rel=>exact⟨i+1,by omega,by go_num,HW3.out⟩
   case measure=>simp[intOf];omega
  ·obtain rfl:i=l.length:=by omega
   rw[List.take_length]at HW0;go_wp2_with fail;refine(F5 _ _ _ HW0.out.2.2.1).mono ?_;rintro e w5 ⟨rfl,rfl⟩;go_wp2;go_ret2;exact⟨by rw[<-yX.out.1];rfl,HW0.out.2.2.2.2⟩

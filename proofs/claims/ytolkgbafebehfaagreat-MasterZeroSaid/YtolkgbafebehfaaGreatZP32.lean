/- Part 33 of what the proof needs. -/
import Derived.Test.YtolkgbafebehfaaGreatZP15
set_option linter.unusedSimpArgs false
set_option linter.unusedVariables false
set_option maxHeartbeats 32000000
set_option maxRecDepth 100000
namespace Go.Proofs.YtolkgbafebehfaaGreat
open Go.RowKit
set_option maxRecDepth 100000
namespace Mst
def yG(w:World)(a:Addr):Array Value:=((List.range 18).map fun j=>(w.cell? (a.add j)).getD undef).toArray
def EG(w:World)(a:Addr):Prop:=∀j,j<18->(w.cell? (a.add j)).isSome=true
def DI(a:Addr):Sem Value:=loadVar 100 a
theorem Bg(a:Addr):loadVar 100 a=DI a:=rfl
theorem Bh(w:World)(a:Addr)(h:EG w a):(DI a).run Tryz.prog w=.ok (.agg (yG w a)) w:=by
 have hl:=run_loadCells (P:=Tryz.prog) w a 18 (fun j=>(w.cell? (a.add j)).getD undef) (fun j hj=>by
  obtain⟨v,hv⟩:=Option.isSome_iff_exists.1 (h j hj)
  rw[hv];rfl)
 have hi:(Tryz.prog.info? 100).map (·.size)=some 18:=by kernel_rfl
 have hagg:∀W,(isAgg 100).run Tryz.prog W=.ok true W:=fun W=>by
  unfold isAgg
  rw[Sem.run_bind,run_underlying Tryz.underlying100 W]
  rfl
 cases hq:Tryz.prog.info? 100 with
 |none=>simp[hq]at hi
 |some i=>
  have hs:i.size=18:=by simpa [hq]using hi
  unfold DI
  simp[loadVar,Sem.run_bind,hagg,sizeOf,typeInfo,hq,hs,hl,yG]
theorem GN{w:World}{a:Addr}{cs:List Value}(hn:cs.length=18)(h:∀j u,cs[j]? =some u->w.cell? (a.add j)=some u):EG w a/\yG w a=cs.toArray:=by
 refine⟨fun j hj=> ?_,?_⟩
 ·rw[h j _ (List.getElem?_eq_getElem (by omega))];rfl
 ·unfold yG
  congr 1
  apply List.ext_getElem?
  intro j
  rcases Nat.lt_or_ge j 18 with hj|hj
  ·rw[List.getElem?_map,List.getElem?_range hj,List.getElem?_eq_getElem (by omega:j<cs.length)]
   simp[h j _ (List.getElem?_eq_getElem (by omega:j<cs.length))]
  ·rw[List.getElem?_eq_none (by simpa using hj),List.getElem?_eq_none (by omega)]
theorem EH{w:World}{g:Nat}{cs:List Value}(hn:cs.length=18)(h:Has w g 100 cs.toArray):EG w ⟨g,0,none⟩/\yG w ⟨g,0,none⟩=cs.toArray:=by
 refine GN hn fun j u hu=> ?_
 have e1:((⟨g,0,none⟩:Addr).add j)=⟨g,j,none⟩:=by unfold Addr.add;split<;>simp_all
 rw[e1,h.cell]
 simpa using hu
end Mst
namespace Mst
open aP Vn Go.Sort
theorem xZ(f:Nat->Int->Int):∀(l:List Int) (i:Nat),jm f l i=0↔∀j x,l[j]? =some x->f (i+j) x=0
 |[],i=>by simp[jm]
 |a::l,i=>by
  rw[jm]
  split
  ·rename_i h
   rw[xZ f l (i+1)]
   constructor
   ·intro h2 j x hx
    cases j with
    |zero=>obtain rfl:a=x:=by simpa using hx
           exact h
    |succ j=>have:=h2 j x (by simpa using hx);rwa[show i+1+j=i+(j+1) by omega]at this
   ·intro h2 j x hx
    have:=h2 (j+1) x (by simpa using hx)
    rwa[show i+(j+1)=i+1+j by omega]at this
  ·rename_i h
   constructor
   ·intro h2;exact absurd h2 h
   ·intro h2;exact absurd (h2 0 a rfl) h
theorem GR{x:Int}:uN x=0↔0<=x/\x<=1073741824:=by
 unfold uN
 split<;>constructor<;>intro h<;>first|omega|(simp at h;done)|rfl
theorem GU{l:List Int}:iw l=0↔∀x∈l,0<=x/\x<=1073741824:=by
 unfold iw
 rw[xZ]
 constructor
 ·intro h x hx
  obtain⟨j,hj⟩:=List.mem_iff_getElem?.1 hx
  exact GR.1 (h j x hj)
 ·intro h j x hx
  exact GR.2 (h x (List.mem_of_getElem? hx))
theorem Bi{l:List Int}{i:Nat}{x:Int}:sN l i x=0↔(0<=x/\x<4)/\(0<i->l.getD (i-1) 0<x):=by
 unfold sN
 split
 ·rename_i h
  constructor
  ·intro h2;omega
  ·intro h2;omega
 ·rename_i h
  split
  ·rename_i h2
   constructor
   ·intro h3;omega
   ·intro h3;have:=h3.2 h2.1;omega
  ·rename_i h2
   constructor
   ·intro _
    refine⟨by omega,fun h0=> ?_⟩
    rcases Int.lt_or_le (l.getD (i-1) 0) x with h3|h3
    ·exact h3
    ·exact absurd ⟨h0,h3⟩ h2
   ·intro _;rfl
theorem TQ:∀(l:List Int),l.Pairwise (· <·)->(∀x∈l,0<=x)->∀(i:Nat) (x:Int),l[i]? =some x->(i:Int)<=x:=by
 intro l hl h0 i
 induction i with
 |zero=>intro x hx;have:=h0 x (List.mem_of_getElem? hx);simpa using this
 |succ i ih=>
  intro x hx
  obtain⟨hi,e⟩:=List.getElem?_eq_some_iff.1 hx
  have h1:=ih l[i] (List.getElem?_eq_getElem (by omega))
  have h2:=(List.pairwise_iff_getElem.1 hl) i (i+1) (by omega) hi (by omega)
  rw[e]at h2
  omega
theorem xG{l:List Int}:nX l=0↔(∀x∈l,0<=x/\x<4)/\l.Pairwise (· <·):=by
 unfold nX
 split
 ·rename_i h
  constructor
  ·intro h2;omega
  ·rintro⟨h1,h2⟩
   have h3:=TQ l h2 (fun x hx=>(h1 x hx).1) 4 l[4] (List.getElem?_eq_getElem h)
   have:=h1 l[4] (List.getElem_mem h)
   omega
 ·rename_i h
  rw[xZ]
  constructor
  ·intro h2
   have hstep:∀i (hi:i+1<l.length),l[i]<l[i+1]:=by
    intro i hi
    have:=(Bi.1 (h2 (i+1) l[i+1] (List.getElem?_eq_getElem hi))).2 (by omega)
    rw[Nat.zero_add,Nat.add_sub_cancel,List.getD_eq_getElem?_getD,List.getElem?_eq_getElem (by omega:i<l.length)]at this
    simpa using this
   refine⟨fun x hx=> ?_,List.pairwise_iff_getElem.2 ?_⟩
   ·obtain⟨j,hj⟩:=List.mem_iff_getElem?.1 hx
    exact(Bi.1 (h2 j x hj)).1
   ·intro i j hi hj hij
    obtain⟨d,rfl⟩:∃d,j=i+1+d:=⟨j-(i+1),by omega⟩
    clear hij
    induction d with
    |zero=>exact hstep i hj
    |succ d ih=>exact Int.lt_trans (ih (by omega)) (hstep (i+1+d) hj)
  ·rintro⟨h1,h2⟩ j x hx
   rw[Nat.zero_add]
   refine Bi.2 ⟨h1 x (List.mem_of_getElem? hx),fun h0=> ?_⟩
   obtain⟨hj,e⟩:=List.getElem?_eq_some_iff.1 hx
   rw[List.getD_eq_getElem?_getD,List.getElem?_eq_getElem (by omega:j-1<l.length)]
   have:=(List.pairwise_iff_getElem.1 h2) (j-1) j (by omega) hj (by omega)
   rw[e]at this
   simpa using this
theorem MP{l:List Int}(h:nX l=0):l.length<=4:=by
 unfold nX at h
 split at h
 ·omega
 ·omega
theorem sS{l:List Int}{x:Int}:inB l x=true↔x∈l:=by unfold inB;exact List.contains_iff_mem
theorem GV{l:List Int}{x:Int}:x∈qI l↔x∈l:=(List.mergeSort_perm l _).mem_iff
theorem Kq{l:List Int}(hn:l.Nodup):(qI l).Pairwise (· <·):=by
 have h1:(qI l).Pairwise (fun a b=>decide (a<=b)=true):=List.pairwise_mergeSort (le:=fun a b:Int=>decide (a<=b)) (by intro a b c;simp;omega) (by intro a b;simp;omega) l
 have h2:(qI l).Nodup:=(List.mergeSort_perm l _).nodup_iff.2 hn
 exact(List.Pairwise.and h1 h2).imp (fun{a b} h=>by
  have h3:=of_decide_eq_true h.1
  have h4:=h.2
  omega)
structure Inv(s:bV):Prop where
 conf:(s.ep=0/\s.ms=[]/\s.fl=0/\s.lg=[])\/(chk s.ep s.ms=0/\nX s.lg=0/\(∀x∈s.lg,dZ s.ms x=true)/\lV s.ms∈s.lg/\0<=s.fl)
 hz:0<=s.hz
 pl:s.pins.length<=3
 yR:s.pins.Pairwise (fun a b=>a.id<b.id)
 pin:∀p∈s.pins,1<=p.id/\p.id<=s.top/\p.left=8/\0<=p.at'
 top:0<=s.top/\s.top<=1073741824
 a0:s.t0=lF\/(saidE s.t0=0/\s.t0.cl=0)
 a1:s.t1=lF\/(saidE s.t1=0/\s.t1.cl=1)
 a2:s.t2=lF\/(saidE s.t2=0/\s.t2.cl=2)
theorem inv0:Inv st0:=⟨.inl ⟨rfl,rfl,rfl,rfl⟩,by decide,by decide,List.Pairwise.nil,(fun p hp=>by cases hp),⟨by decide,by decide⟩,.inl rfl,.inl rfl,.inl rfl⟩
theorem Inv.ok{s:bV}(h:Inv s):nR s:=by
 rcases h.conf with⟨_,h1,_,h2⟩|⟨h1,h2,_⟩
 ·exact⟨by rw[h1];decide,by rw[h2];decide,by have:=h.pl;omega⟩
 ·exact⟨by have:=(kH h1).2.2.1;omega,by have:=MP h2;omega,by have:=h.pl;omega⟩
theorem GX{l:List Mem}{x:Int}:dZ l x=true↔∃m∈l,m.1=x:=by simp[dZ]
theorem PI{l:List aZ}{id:Int}(h:0<=fG l id):∃(k:Nat) (x:aZ),fG l id=(k:Int)/\l[k]? =some x/\x.id=id:=by
 rcases tC l id with h1|h1
 ·omega
 ·exact h1
theorem Kr{l:List aZ}{id:Int}(h:∀p∈l,p.left=8)(h0:0<=fG l id):jG l id=l:=by
 unfold jG
 obtain⟨k,y,h1,hy,hid⟩:=PI h0
 rw[h1,Int.toNat_natCast,hy]
 have hl:=h y (List.mem_of_getElem? hy)
 have e:(⟨id,y.at',8⟩:aZ)=y:=by rw[<-hid,<-hl]
 obtain⟨h2,h3⟩:=List.getElem?_eq_some_iff.1 hy
 show l.set k ⟨id,y.at',8⟩=l
 rw[e,<-h3]
 exact List.set_getElem_self h2
theorem GY(l:List aZ)(id:Int):(freed l id).Sublist l:=by
 unfold freed
 split
 ·exact List.Sublist.refl _
 ·exact List.eraseIdx_sublist ..
theorem ZL{x:aN}(h:aY x=0)(hk:x.k=7):0<=x.n/\x.n<=1073741824:=by
 unfold aY at h
 rw[if_neg (by omega),if_neg (by omega),if_pos (by omega)]at h
 exact GU.1 h x.n (by simp)
theorem TR{x:aN}(h:aY x=0)(hk:x.k=6):0<=x.pin.id/\x.pin.id<=1073741824:=by
 unfold aY at h
 rw[if_neg (by omega),if_neg (by omega),if_neg (by omega),if_pos hk]at h
 exact GU.1 h x.pin.id (by simp)
theorem EI{x:aN}(h:aY x=0)(hk:x.k=1):chk x.ep x.ms=0/\nX x.lg=0:=by
 unfold aY at h
 rw[if_pos hk]at h
 split at h
 ·rename_i h1;exact⟨h1,h⟩
 ·rename_i h1;exact absurd h h1
theorem EJ{x:aN}(h:aY x=0)(hk:x.k=8):saidE x.said=0:=by
 unfold aY at h
 rw[if_neg (by omega),if_neg (by omega),if_neg (by omega),if_neg (by omega),if_pos hk]at h
 exact h
theorem ZM{a:kJ}(h:saidE a=0):a.cl=0\/a.cl=1\/a.cl=2:=by
 unfold saidE at h
 split at h
 ·omega
 ·omega
theorem tJ{s:bV}{x:aN}(h:bF s x=0):aY x=0:=by
 unfold bF at h
 split at h
 ·rename_i h1;exact absurd h h1
 ·rename_i h1;exact Classical.not_not.1 h1
theorem MQ{s:bV}{x:aN}(h:bF s x=0):x.k=1\/x.k=5\/x.k=4\/x.k=6\/x.k=7\/x.k=8:=by
 have hn:=tJ h
 unfold bF at h
 rw[if_neg (by simpa using hn)]at h
 by_cases h1:x.k=1
 ·exact .inl h1
 by_cases h5:x.k=5
 ·exact .inr (.inl h5)
 by_cases h4:x.k=4
 ·exact .inr (.inr (.inl h4))
 by_cases h6:x.k=6
 ·exact .inr (.inr (.inr (.inl h6)))
 by_cases h7:x.k=7
 ·exact .inr (.inr (.inr (.inr (.inl h7))))
 by_cases h8:x.k=8
 ·exact .inr (.inr (.inr (.inr (.inr h8))))
 rw[if_neg h1,if_neg h5,if_neg h4,if_neg h6,if_neg h7,if_neg h8]at h
 omega
theorem TS{s:bV}{x:aN}(h:bF s x=0):(x.k=1->lW s x=0)/\(x.k=5->dZ s.ms x.n=true)/\(x.k=4->¬x.at'<s.hz)/\(x.k=6->qQ s x.pin=0)/\(x.k=8->¬x.said.req<(toldOf s x.said.cl).req):=by
 have hn:=tJ h
 unfold bF at h
 rw[if_neg (by simpa using hn)]at h
 refine⟨fun hk=> ?_,fun hk=> ?_,fun hk=> ?_,fun hk=> ?_,fun hk=> ?_⟩
 ·rw[if_pos hk]at h;exact h
 ·rw[if_neg (by omega),if_pos hk]at h
  split at h
  ·assumption
  ·omega
 ·rw[if_neg (by omega),if_neg (by omega),if_pos hk]at h
  split at h
  ·omega
  ·assumption
 ·rw[if_neg (by omega),if_neg (by omega),if_neg (by omega),if_pos hk]at h;exact h
 ·rw[if_neg (by omega),if_neg (by omega),if_neg (by omega),if_neg (by omega),if_neg (by omega),if_pos hk]at h
  split at h
  ·omega
  ·assumption
theorem PK{s:bV}{x:aN}(h:lW s x=0):s.ep<x.ep/\(∀y∈x.lg,dZ x.ms y=true)/\lV x.ms∈x.lg:=by
 unfold lW at h
 split at h
 ·omega
 ·split at h
  ·omega
  ·split at h
   ·omega
   ·rename_i h1 h2 h3
    refine⟨by omega,fun y hy=> ?_,?_⟩
    ·cases hb:dZ x.ms y
     ·exfalso;exact h2 (List.any_eq_true.2 ⟨y,hy,by rw[hb];rfl⟩)
     ·rfl
    ·refine sS.1 ?_
     cases hb:inB x.lg (lV x.ms)
     ·exact absurd hb h3
     ·rfl
theorem TT{s:bV}{p:aZ}(h:qQ s p=0)(h0:¬0<=fG s.pins p.id):s.pins.length<3/\s.top<p.id/\s.hz<=p.at':=by
 unfold qQ at h
 rw[if_neg h0]at h
 split at h
 ·omega
 ·split at h
  ·omega
  ·split at h
   ·omega
   ·omega
theorem PL{l:List Int}{id:Int}(h:nX l=0)(hid:0<=id/\id<4):nX (kS l id)=0:=by
 unfold kS
 split
 ·exact h
 ·rename_i hn
  obtain⟨h1,h2⟩:=xG.1 h
  refine xG.2 ⟨fun x hx=> ?_,Kq ?_⟩
  ·rcases List.mem_append.1 (GV.1 hx)with h|h
   ·exact h1 x h
   ·obtain rfl:x=id:=by simpa using h
    exact hid
  ·rw[List.nodup_append]
   refine⟨h2.imp (fun{a b} h=>by omega),by simp,fun a ha b hb e=> ?_⟩
   obtain rfl:b=id:=by simpa using hb
   exact hn (sS.2 (e▸ha))
theorem GZ{l:List Int}{id x:Int}:x∈kS l id↔x∈l\/x=id:=by
 unfold kS
 split
 ·rename_i h
  constructor
  ·exact .inl
  ·rintro(h1|rfl)
   ·exact h1
   ·exact sS.1 h
 ·rw[GV]
  simp
theorem Ks{ep:Int}{l:List Mem}{id:Int}(h:chk ep l=0)(hm:dZ l id=true):0<=id/\id<4:=by
 obtain⟨m,hin,rfl⟩:=GX.1 hm
 exact(kH h).2.2.2.id m hin
theorem Inv.apply{s:bV}{x:aN}(h:Inv s)(hg:0<=x.at'/\0<=x.pin.at'/\0<=x.fl):
  Inv (bG s x)/\s.hz<=(bG s x).hz/\s.ep<=(bG s x).ep/\(bF s x=0->x.k=6->s.pins.length<(bG s x).pins.length->s.hz<=x.pin.at'):=by
 by_cases h0:bF s x=0
 ·have hn:=tJ h0
  obtain⟨f1,f5,f4,f6,f8⟩:=TS h0
  have hS:∀s',(if bF s x≠0 then s else s')=s':=fun s'=>by rw[if_neg (by simpa using h0)]
  rcases MQ h0 with hk|hk|hk|hk|hk|hk
  ·obtain⟨g1,g2,g3⟩:=PK (f1 hk)
   obtain⟨g4,g5⟩:=EI hn hk
   have e:bG s x={s with ep:=x.ep,ms:=x.ms,fl:=x.fl,lg:=x.lg}:=by unfold bG;rw[hS,if_pos hk]
   rw[e]
   refine⟨⟨.inr ⟨g4,g5,g2,g3,hg.2.2⟩,h.hz,h.pl,h.yR,h.pin,h.top,h.a0,h.a1,h.a2⟩,Int.le_refl _,Int.le_of_lt g1,fun _ h6=>by omega⟩
  ·have e:bG s x={s with lg:=kS s.lg x.n}:=by unfold bG;rw[hS,if_neg (by omega),if_pos hk]
   have hm:=f5 hk
   rw[e]
   refine⟨⟨?_,h.hz,h.pl,h.yR,h.pin,h.top,h.a0,h.a1,h.a2⟩,Int.le_refl _,Int.le_refl _,fun _ h6=>by omega⟩
   rcases h.conf with⟨_,c1,_⟩|⟨c1,c2,c3,c4,c5⟩
   ·rw[c1]at hm;simp[dZ]at hm
   ·refine .inr ⟨c1,PL c2 (Ks c1 hm),fun y hy=> ?_,GZ.2 (.inl c4),c5⟩
    rcases GZ.1 hy with hy|rfl
    ·exact c3 y hy
    ·exact hm
  ·have e:bG s x={s with hz:=x.at'}:=by unfold bG;rw[hS,if_neg (by omega),if_neg (by omega),if_pos hk]
   have:=f4 hk
   rw[e]
   exact⟨⟨h.conf,hg.1,h.pl,h.yR,h.pin,h.top,h.a0,h.a1,h.a2⟩,by show s.hz<=x.at';omega,Int.le_refl _,fun _ h6=>by omega⟩
  ·have e:bG s x=kW s x.pin:=by unfold bG;rw[hS,if_neg (by omega),if_neg (by omega),if_neg (by omega),if_pos hk]
   rw[e]
   unfold kW
   split
   ·rename_i hp
    rw[Kr (fun p hp=>(h.pin p hp).2.2.1) hp]
    exact⟨h,Int.le_refl _,Int.le_refl _,fun _ _ hl=>absurd hl (Nat.lt_irrefl _)⟩
   ·rename_i hp
    obtain⟨g1,g2,g3⟩:=TT (f6 hk) hp
    obtain⟨g4,g5⟩:=TR hn hk
    have ht:=h.top
    refine⟨⟨h.conf,h.hz,by simp;omega,?_,?_,⟨g4,g5⟩,h.a0,h.a1,h.a2⟩,Int.le_refl _,Int.le_refl _,fun _ _ _=>g3⟩
    ·rw[List.pairwise_append]
     refine⟨h.yR,by simp,fun a ha b hb=> ?_⟩
     obtain rfl:b=⟨x.pin.id,x.pin.at',8⟩:=by simpa using hb
     have:=(h.pin a ha).2.1
     show a.id<x.pin.id
     omega
    ·intro p hp
     rcases List.mem_append.1 hp with hp|hp
     ·obtain⟨a1,a2,a3,a4⟩:=h.pin p hp
      exact⟨a1,by show p.id<=x.pin.id;omega,a3,a4⟩
     ·obtain rfl:p=⟨x.pin.id,x.pin.at',8⟩:=by simpa using hp
      exact⟨by show 1<=x.pin.id;omega,Int.le_refl _,rfl,hg.2.1⟩
  ·have e:bG s x={s with pins:=freed s.pins x.n,top:=max s.top x.n}:=by unfold bG;rw[hS,if_neg (by omega),if_neg (by omega),if_neg (by omega),if_neg (by omega),if_pos hk]
   obtain⟨g1,g2⟩:=ZL hn hk
   have hsub:=GY s.pins x.n
   have ht:=h.top
   rw[e]
   refine⟨⟨h.conf,h.hz,Nat.le_trans hsub.length_le h.pl,h.yR.sublist hsub,fun p hp=> ?_,?_,h.a0,h.a1,h.a2⟩,Int.le_refl _,Int.le_refl _,fun _ h6=>by omega⟩
   ·obtain⟨a1,a2,a3,a4⟩:=h.pin p (hsub.subset hp)
    exact⟨a1,by show p.id<=max s.top x.n;omega,a3,a4⟩
   ·show 0<=max s.top x.n/\max s.top x.n<=1073741824
    omega
  ·have e:bG s x=pz s x.said:=by unfold bG;rw[hS,if_neg (by omega),if_neg (by omega),if_neg (by omega),if_neg (by omega),if_neg (by omega)]
   have hs:=EJ hn hk
   rw[e]
   unfold pz
   rcases ZM hs with hc|hc|hc
   ·rw[if_pos hc]
    exact⟨⟨h.conf,h.hz,h.pl,h.yR,h.pin,h.top,.inr ⟨hs,hc⟩,h.a1,h.a2⟩,Int.le_refl _,Int.le_refl _,fun _ h6=>by omega⟩
   ·rw[if_neg (by omega),if_pos hc]
    exact⟨⟨h.conf,h.hz,h.pl,h.yR,h.pin,h.top,h.a0,.inr ⟨hs,hc⟩,h.a2⟩,Int.le_refl _,Int.le_refl _,fun _ h6=>by omega⟩
   ·rw[if_neg (by omega),if_neg (by omega)]
    exact⟨⟨h.conf,h.hz,h.pl,h.yR,h.pin,h.top,h.a0,h.a1,.inr ⟨hs,hc⟩⟩,Int.le_refl _,Int.le_refl _,fun _ h6=>by omega⟩
 ·have e:bG s x=s:=by unfold bG;rw[if_pos h0]
  rw[e]
  exact⟨h,Int.le_refl _,Int.le_refl _,fun h1=>absurd h1 h0⟩
end Mst
end Go.Proofs.YtolkgbafebehfaaGreat

/- Part 22. -/
import Derived.Test.YtomccaocggplgaaGreatMP20
set_option linter.unusedSimpArgs false
set_option linter.unusedVariables false
set_option maxHeartbeats 32000000
set_option maxRecDepth 100000
namespace Go.Proofs.YtomccaocggplgaaGreat
open Go.RowKit
namespace Pt
open aH Fr Vn Ops Wl
def dat(m:aH.Safe)(x:Int):List UInt8:=bl (dataOf m [] x)
def NS(m:aH.Safe)(x:Int)(K:Nat):Prop:=(∀j:Nat,j<K->cu m [] (x+1+j)=true/\uz (dat m (x+1+j))=none)/\(cu m [] (x+1+K)=false\/∃c,uz (dat m (x+1+K))=some c)
def txt(m:aH.Safe)(x:Int)(K:Nat):List (List UInt8):=je (fun j:Nat=>dat m (x+j)) (K+1)
def Passed(m:aH.Safe)(x:Int):Prop:=uz (dat m x)=none\/∃c K,uz (dat m x)=some c/\NS m x K/\K<=100000/\¬c<=(txt m x K).length
def MS(w:World)(g:Nat)(F:Nat->Prop)(n:Nat)(m:aH.Safe)(aX aQ f:Int)(K:Nat)(R:St)(e:Ending)(w':World):Prop:=
 ∃gp gw A c,e=.returned (.tuple #[.pointer (some ⟨gp,0,none⟩),.int .i64 0])/\ER w' gp (.pointer (some ⟨gw,0,none⟩)) g f (.slice A (txt m f K).length c)/\D3 w' gw g (f+lastOf R)/\aZ w' g F n (sD f (f+1+K) m) [] aX aQ/\
  aF 9 1 w.heap.size w' A (txt m f K).length c (dn (txt m f K))/\w.heap.size<=gp/\w.heap.size<=gw/\Kept F w w'
section
variable{F:Nat->Prop}{w:World}{g n:Nat}{m:aH.Safe}{aX aQ:Int}
theorem YW(h:aZ w g F n m [] aX aQ)(hn:n<=100000)(a:Int)(N i0 K want:Nat)(R:St)(adC:∀x,cu m [] x=decide (a<=x/\x<a+N))(ha:1<=a)(haN:a+N<=1073741824)(hi0:i0<N)
  (hsz:∀x,(dU m x).size<=100000) (adD:∀i:Nat,i0<i->i<N->Passed m (a+i)) (afW:uz (dat m (a+i0))=some want) (hend:NS m (a+i0) K) (hK:K<=100000) (hw:want<=(txt m (a+i0) K).length)
  (AY:Log (a+i0) R [] (sD (a+i0) (a+i0+1+K) m) []) (hR:R.length<=100000):
  Calls Tryz.prog 30 #[.pointer (some ⟨g,0,none⟩)] w (MS w g F n m aX aQ (a+i0) K R):=by
 have hds:∀x,(dataOf m [] x).size<=1000000:=fun x=>by have h1:=Md (m:=m) (ps:=[]) x;have h2:=hsz x;have:total []=0:=rfl;omega
 have hs2:∀x,(dU m x).size+total []<=1000000000:=fun x=>by have h2:=hsz x;have:total []=0:=rfl;omega
 have hpi:∀p∈([]:List aH.Pc),I64 p.1:=fun p hp=>by cases hp
 have hfi:=pZ h hpi hn (by decide);have hbe:=fun(x:Int) (hx:0<=x/\x<=2305843009213693952) (W:World) (hW:Kept aj w W)=>Dp (h.kept hW (fun _ _ z=>z)) x (gY hx.1 (by omega)) (by decide) (by have:=hds x;omega) (by have:=hs2 x;omega);have hrd:=fun(x:Int) (K c:Nat) (hx:0<=x/\x<=1073741824) (hK:K<=100000) (hb:uz (dat m x)=some c) (he:NS m x K) (W:World) (hW:Kept aj w W)=>YI (h.kept hW (fun _ _ z=>z)) x K c hpi hn (by decide) hds hs2 hx.1 (by omega) hK hb he.1 he.2;have hen:=fun(W:World) (hW:Kept aj w W)=>BU (h.kept hW (fun _ _ z=>z)) (a+i0) K hpi hn (by decide) hs2 (by omega) (by omega) hend.1 hend.2;obtain⟨mK,hmK⟩:∃mK,sD (a+i0) (a+i0+1+K) m=mK:=⟨_,rfl⟩;have hkp:=fun(W W':World) (gp:Nat) (v0 v3:Value) (hW:Kept aj w W) (hp:ER W gp v0 g (a+i0) v3)=>keep_any v0 v3 hp (h.kept hW (fun _ _ z=>z)) hn (a+i0) (a+i0+1+K);rw[hmK]at hkp AY
 have hfit:Fits n mK []:=⟨hn,by decide,fun f=>by
  rw[<-hmK];have h2:=hsz f;unfold dU sD at*
  split
  ·exact h2
  ·exact Nat.zero_le _,fun p hp=>by cases hp⟩
 have hop:=fun(W:World) (F':Nat->Prop) (hW:aZ W g F' n mK [] aX aQ)=>Mc hW AY hfit (by omega) (by omega) hR;have qg:=ah hfi;have uZ:=ah hbe;have Ub:=ah hrd;have HEN:=ah hen;have YV:=ah hkp;have LK:=ah hop;have HMK:=ah hmK;have ag9:=ah adC;have ag':=ah adD;have afX:=ah afW;have jI:=ah hend;have HW:=ah hw;have sJ:=ah h.lt;have HD:=ah h;clear hfi hbe hrd hen hkp hop hmK adC adD afW hend hw h hds hs2 hpi hsz AY hfit;go_enter Tryz.func30,Tryz.ntmps30;go_wp2_with fail;refine qg.out.mono ?_;rintro e w1 ⟨fl,A,c,rfl,hfa,hown,hnew,hk1⟩;have hfl:=Jw hfa ag9.out (by omega) (by omega);have hrv:=SB w1 A c fl hown;have HRV:=ah hrv;have gB:=ah hk1;have gI:=ah hnew;have o7:=ah hfl;clear hfa hown hnew hk1 hfl hrv;go_wp2_with fail;refine HRV.out.mono ?_;rintro e w2 ⟨rfl,hs2,hk2⟩;have hlen:fl.length=N:=by rw[o7.out];simp[nums]
 rw[hlen]at hs2⊢;have afY:Kept aj w w2:=gB.out.trans hk2 (fun k hk=> .inr (gI.out k hk));have hget:∀i:Nat,i<N->fl.reverse[i]? =some (a+(N-1-i:Nat)):=by intro i hi;rw[List.getElem?_reverse (by omega),o7.out];unfold nums;rw[List.getElem?_map,List.length_map,List.length_range,List.getElem?_range (by omega)];rfl
 have HS2:=ah hs2;have aV:=ah afY;have ab2:=ah hget;clear hs2 hk2 afY hget hlen;go_wp2_with fail;go_loopw [20] (fun v20 wr=>∃i:Nat,i+i0+1<=N/\v20=.int .i64 i/\Kept aj w2 wr) (fun v20 _=>N-(intOf v20).toNat)
 case atStart=>exact⟨0,by omega,rfl,Kept.refl _ _⟩
 case round=>
  obtain⟨i,hi,rfl,hk⟩:=hrel;obtain⟨x,hx⟩:∃x:Int,x=a+(N-1-i:Nat):=⟨_,rfl⟩;have hgx:=ab2.out i (by omega);rw[<-hx]at hgx;obtain⟨ad,rfl,-,e0⟩:=zu.vC (HS2.out.kept hk (fun _ _ z=>z)) (by omega) i x hgx;have hx1:0<=x:=by omega
  have hx2:x<=1073741824:=by omega
  have hil:i<N:=by omega
  have hkw:Kept aj w wr:=aV.out.then hk;have hbx:=uZ.out x ⟨hx1,by omega⟩ wr hkw;have HK:=ah hk;have oq:=ah hkw;have HX:=ah hx;clear hk hgx hkw hx;by_cases hfound:i+i0+1=N
  ·have MB:x=a+i0:=by have:=HX.out;omega
   subst MB;have hbx2:Calls Tryz.prog 68 #[.pointer (some ⟨g,0,none⟩),.int .i64 (a+i0)] wr fun e w'=>e=.returned (.tuple #[.int .i64 want,.bool true])/\Kept aj wr w':=by have hb2:=afX.out;unfold dat at hb2;rw[hb2]at hbx;exact hbx
   have hrd:=Ub.out (a+i0) K want ⟨hx1,hx2⟩ hK afX.out jI.out;have D4:=ah hbx2;have YX:=ah hrd;obtain⟨L,hL⟩:∃L,txt m (a+i0) K=L:=⟨_,rfl⟩;have hnb:decide (want<=L.length)=true:=by rw[<-hL];exact decide_eq_true HW.out
   have hL2:je (fun j:Nat=>bl (dataOf m [] (a+i0+j))) (K+1)=L:=hL;rw[hL2]at YX;have HL:=ah hL;clear hbx hbx2 hrd hL hL2;go_wp2_with fail;refine D4.out.mono ?_;rintro e w3 ⟨rfl,hk3⟩;have bu:=ah (oq.out.then hk3);have hrx:=YX.out w3 bu.out;have ab3:=ah hrx;clear hk3 hrx;go_wp2_with fail;refine ab3.out.mono ?_;rintro e w4 ⟨A4,c4,rfl,hn4,hk4⟩;rw[hnb];obtain⟨w5,hw5⟩:∃w5,w4.alloc (.cells #[.pointer none,.pointer (some ⟨g,0,none⟩),.int .i64 (a+i0),.slice A4 L.length c4] 107)=w5:=⟨_,rfl⟩;have hk5:Kept aj w w5:=by rw[<-hw5];exact(bu.out.then hk4).alloc _
   have YY:ER w5 w4.heap.size (.pointer none) g (a+i0) (.slice A4 L.length c4):=by rw[<-hw5];exact Has.new _ _ _
   have kG:aF 9 1 w3.heap.size w5 A4 L.length c4 (dn L):=by rw[<-hw5];exact hn4.kept ((Kept.refl _ _).alloc _)
   have afZ:=HEN.out w5 hk5;have eF:=ah hw5;have dB:=ah hk5;have Ju:=ah YY;have uP:=ah kG;have ahK:=ah afZ;have rH:=ah (bu.out.then hk4).size;have jF:=ah bu.out.size;clear hw5 hk5 YY kG afZ hk4 hn4 hnb;go_wp2_with fail;rw[eF.out];refine ahK.out.mono ?_;rintro e w6 ⟨rfl,hk6⟩;have zy:=Ju.out.kept hk6 (fun z=>z);have af0:=YV.out w6 w6 w4.heap.size _ _ (dB.out.then hk6) zy;have ahL:=ah af0;have Jv:=ah zy;have kQ:=ah (dB.out.then hk6);have yC:=ah (uP.out.kept hk6);clear hk6 zy af0;go_wp2_with fail;refine ahL.out.mono ?_;rintro e w7 ⟨rfl,hd7,nG⟩;have hgF:¬F w4.heap.size:=fun hh=>by have h1:=sJ.out _ hh;have h2:=rH.out;omega
   have YS:=Jv.out.kept nG hgF;have hn7:aF 9 1 w3.heap.size w7 A4 L.length c4 (dn L):=⟨aC yC.out.1 nG (fun k hk hh=>by have h1:=sJ.out _ hh;have h2:=yC.out.2 k hk;have h3:=jF.out;omega),yC.out.2⟩;have af2:=LK.out w7 F hd7;have HD7:=ah hd7;have HP7:=ah YS;have HN7:=ah hn7;have DU:=ah ((kQ.out.mono (fun _ z=>z.elim)).then nG);have ahM:=ah af2;clear hd7 nG hgF YS hn7 af2;go_wp2_with fail;refine ahM.out.mono ?_;rintro e w8 ⟨gw,A8,c8,rfl,hw8,af4,-,hb8⟩;have hk8:Kept aj w7 w8:=Kept.of_below hb8 (fun k hk _=>hk);have hp8:=HP7.out.kept hk8 (fun z=>z);have x0:w8.cell? ⟨w4.heap.size,0,none⟩=some (.pointer none):=hp8.cell 0;have f0:=hp8.frozen 0;have hfin:MS w g F n m aX aQ (a+i0) K R (.returned (.tuple #[.pointer (some ⟨w4.heap.size,0,none⟩),.int .i64 0])) (w8.setCell ⟨w4.heap.size,0,none⟩ (.pointer (some ⟨gw,0,none⟩))):=by
    have hks:Kept (fun k=>k=w4.heap.size) w8 (w8.setCell ⟨w4.heap.size,0,none⟩ (.pointer (some ⟨gw,0,none⟩))):=(Kept.refl _ w8).put (.inl rfl);have hS4:=rH.out;have hS7:=DU.out.size;refine⟨w4.heap.size,gw,A4,c4,rfl,?_,?_,?_,?_,hS4,Nat.le_trans hS7 af4,?_⟩
    ·rw[HL.out];exact hp8.put 0 (.pointer (some ⟨gw,0,none⟩))
    ·exact hw8.kept hks (fun e=>by have:=HP7.out.lt;omega)
    ·rw[HMK.out];exact(HD7.out.kept hk8 (fun _ _ z=>z)).kept hks (fun k hk e=>by have h1:=sJ.out _ hk;omega)
    ·rw[HL.out];refine⟨aC (aC HN7.out.1 hk8 (fun _ _ z=>z)) hks (fun k hk e=> ?_),fun k hk=>Nat.le_trans jF.out (HN7.out.2 k hk)⟩;obtain⟨cs,hh⟩:=Fr.jT HN7.out.1 hk;subst e;exact Has.ne hh HP7.out (by decide) rfl
    ·exact(DU.out.then (hk8.mono (fun _ z=>z.elim))).trans hks (fun k hk=> .inr (by omega))
   have bU:=ah hfin;clear hw8 af4 hb8 hk8 hp8 hfin;go_wp2;go_ret2;exact bU.out
  ·have hps:=ag'.out (N-1-i) (by omega) (by omega);rw[<-HX.out]at hps;rcases hps with hno|⟨cx,Kx,hb,he,hKx,hnot⟩
   ·have hbx2:Calls Tryz.prog 68 #[.pointer (some ⟨g,0,none⟩),.int .i64 x] wr fun e w'=>e=.returned (.tuple #[.int .i64 0,.bool false])/\Kept aj wr w':=by unfold dat at hno;rw[hno]at hbx;exact hbx
    have D4:=ah hbx2;clear hbx hno hbx2;go_wp2_with fail;refine D4.out.mono ?_;rintro e w3 ⟨rfl,hk3⟩;have bu:=ah (HK.out.then hk3);clear hk3;go_wp2;go_roundw
    case rel=>exact⟨i+1,by omega,by go_num,bu.out⟩
    case measure=>simp[intOf];omega
   ·have hbx2:Calls Tryz.prog 68 #[.pointer (some ⟨g,0,none⟩),.int .i64 x] wr fun e w'=>e=.returned (.tuple #[.int .i64 cx,.bool true])/\Kept aj wr w':=by have hb2:=hb;unfold dat at hb2;rw[hb2]at hbx;exact hbx
    have hrd:=Ub.out x Kx cx ⟨hx1,hx2⟩ hKx hb he;have D4:=ah hbx2;have YX:=ah hrd;obtain⟨Lx,hLx⟩:∃Lx,je (fun j:Nat=>bl (dataOf m [] (x+j))) (Kx+1)=Lx:=⟨_,rfl⟩;have hnb:decide (cx<=Lx.length)=false:=by rw[<-hLx];exact decide_eq_false hnot
    rw[hLx]at YX;clear hbx hb hbx2 hrd he hnot hLx;go_wp2_with fail;refine D4.out.mono ?_;rintro e w3 ⟨rfl,hk3⟩;have bu:=ah (HK.out.then hk3);have hrx:=YX.out w3 (oq.out.then hk3);have ab3:=ah hrx;clear hk3 hrx;go_wp2_with fail;refine ab3.out.mono ?_;rintro e w4 ⟨A4,c4,rfl,-,hk4⟩;rw[hnb];have eY:=ah (bu.out.then hk4);clear hk4 hnb;go_wp2;go_roundw
    case rel=>exact⟨i+1,by omega,by go_num,eY.out⟩
    case measure=>simp[intOf];omega
end
end Pt
namespace Pt
open aH Fr Vn Ops Wl
def Hd:St->Prop
 |[]=>False
 |[f]=>f.ts≠[]
 |_::g::R=>Hd (g::R)
theorem Hd.cons{f:o8}{R:St}(h:Hd R):Hd (f::R):=by
 cases R with
 |nil=>exact h.elim
 |cons g R=>exact h
theorem PY{R:St}(h:R=[]\/Hd R)(t:List UInt8):Hd (app R t):=by
 cases R with
 |nil=>show([t]:List (List UInt8))≠[];simp
 |cons f R=>
  have h:Hd (f::R):=by rcases h with h|h;cases h;exact h
  by_cases hf:full f
  ·rw[Ib hf];exact h.cons
  ·rw[KG hf];cases R with
   |nil=>show f.ts++[t]≠[];simp
   |cons g R=>exact h
theorem aew{R:St}(h:Hd R)(q:List UInt8):Hd (tail R q):=by
 cases R with
 |nil=>exact h.elim
 |cons f R=>
  by_cases hf:full f
  ·rw[EO hf];exact h.cons
  ·rw[Ic hf];cases R with
   |nil=>exact h
   |cons g R=>exact h
theorem PZ:∀{T:List (List UInt8)} {R:St},Hd R->Hd (cur R T)
 |[],_,h=>h
 |t::T,R,h=>by rw[Dj];exact PZ (PY (.inr h) t)
theorem YZ(t:List UInt8)(T:List (List UInt8)):Hd (cur [] (t::T)):=by rw[Dj];exact PZ (PY (.inl rfl) t)
theorem Hd.texts:∀{R:St},Hd R->Wl.texts R≠[]
 |[],h=>h.elim
 |[f],h=>by have h2:f.ts≠[]:=h;show []++f.ts≠[];simpa using h2
 |f::g::R,h=>by have:=Hd.texts (R:=g::R) h;show Wl.texts (g::R)++f.ts≠[];simp[this]
theorem Dq{first:Int}:∀(ps:List aH.Pc) {R:St} {m:aH.Safe} {T:List (List UInt8)} (left:Nat),BR first R m->Ok R->Hd R->(∀t∈T,t.length<=65536)->ps.filter (mine first)=jl first R T->
  ∃R' j,BR first R' (qK m left ps)/\Ok R'/\Hd R'/\texts R'=texts R++T.take j/\R'.length<=R.length+T.length
 |[],R,m,T,left,h,ho,hh,hT,hp=>⟨R,0,h,ho,hh,by simp,by omega⟩
 |p::ps,R,m,T,left,h,ho,hh,hT,hp=>by
  unfold qK;by_cases hx:first<=p.1
  ·rw[List.filter_cons_of_pos (by simpa [mine]using hx)]at hp;cases T with
   |nil=>cases hp
   |cons t T=>
    injection hp with h1 h2;subst h1;have ht:=hT t (by simp);by_cases hl:left<(bI (bM t)).size
    ·rw[if_pos hl];by_cases h0:left=0
     ·rw[if_pos h0];exact⟨R,0,h,ho,hh,by simp,by omega⟩
     ·rw[if_neg h0];dsimp only;rw[Sv];rw[nI]at hl;have hg:=Yw R ((bM t).take left);exact⟨tail R ((bM t).take left),0,abE h _,aer ho ht (List.take_prefix _ _) (by rw[List.length_take];omega),aew hh _,by rw[Ve];simp,by simp;omega⟩
    ·rw[if_neg hl];obtain⟨R',j,a,b,e,c,d⟩:=Dq ps (T:=T) (left-(bI (bM t)).size) (TL h t) (Yv ho ht) (PY (.inr hh) t) (fun x hx=>hT x (by simp[hx])) h2;have hg:=Ig R t;exact⟨R',j+1,a,b,e,by rw[c,L6];simp,by simp;omega⟩
  ·rw[List.filter_cons_of_neg (by simpa [mine]using hx)]at hp;by_cases hl:left<p.2.size
   ·rw[if_pos hl];by_cases h0:left=0
    ·rw[if_pos h0];exact⟨R,0,h,ho,hh,by simp,by omega⟩
    ·rw[if_neg h0];exact⟨R,0,KH h (by omega) _,ho,hh,by simp,by omega⟩
   ·rw[if_neg hl];exact Dq ps (left-p.2.size) (KH h (by omega) _) ho hh hT hp
def vG:St->Nat->List (List UInt8)
 |[],_=>[]
 |f::R,i=>if i=R.length then f.ts else vG R i
theorem NT{R:St}(h:Ok R){i:Nat}(hi:i<R.length):dF (aY (lZ R i))=vG R i/\uz (lZ R i)=match vG R i with|t::_=>wH t|[]=>none:=by
 induction R with
 |nil=>simp at hi
 |cons f R ih=>
  simp only[lZ,vG];by_cases e:i=R.length
  ·rw[if_pos e,if_pos e];have ho:=h f (by simp);refine⟨(KI ho).1,?_⟩;unfold uz pR;obtain⟨t',h1,h2,h3⟩:=ho.q;rcases hts:f.ts with _|⟨t,ts⟩
   ·have:=EI [] f.q t' h1 h2 h3;simp only[List.nil_append,List.length_nil]at this;rw[show dY []++f.q=f.q by simp[dY],this]
   ·have ht:t.length<=65536:=ho.ts t (by rw[hts];simp);have:=C5 [] t (dY ts++f.q) ht;simp only[List.nil_append,List.length_nil,Nat.zero_add]at this;rw[show dY (t::ts)++f.q=bM t++(dY ts++f.q) by simp[dY],this]
  ·rw[if_neg e,if_neg e];exact ih (fun g hg=>h g (List.mem_cons_of_mem _ hg)) (by simp at hi;omega)
theorem Jy:∀{R:St} {p:List UInt8} {rest:List (List UInt8)},Hd R->texts R=p::rest->(∀i,1<=i->∀t∈vG R i,t∈rest)/\∃r0,vG R 0=p::r0
 |[],_,_,h,_=>h.elim
 |[f],p,rest,h,ht=>by
  have ht':f.ts=p::rest:=by simpa [texts]using ht
  refine⟨fun i hi t ES=> ?_,rest,by simp[vG,ht']⟩;simp only[vG,List.length_nil]at ES;rw[if_neg (by omega)]at ES;cases ES
 |f::g::R,p,rest,h,ht=>by
  have h2:Hd (g::R):=h;have hne:=h2.texts;rcases htx:texts (g::R)with _|⟨p',aiK⟩
  ·exact absurd htx hne
  ·have ht2:texts (g::R)++f.ts=p::rest:=ht;rw[htx]at ht2;injection ht2 with e1 e2;subst e1;obtain⟨h3,r0,h4⟩:=Jy h2 htx;refine⟨fun i hi t ES=> ?_,r0,?_⟩
   ·unfold vG at ES;split at ES
    ·rw[<-e2];exact List.mem_append_right _ ES
    ·rw[<-e2];exact List.mem_append_left _ (h3 i hi t ES)
   ·unfold vG;rw[if_neg (by simp)];exact h4
theorem MU{d d':Nat->List UInt8}:∀{k:Nat},(∀j,j<k->d j=d' j)->je d k=je d' k
 |0,_=>rfl
 |k+1,h=>by show je d k++BV d k=je d' k++BV d' k;rw[MU (fun j hj=>h j (by omega))];unfold BV;rw[h k (by omega)]
theorem Y0:∀{R:St},Ok R->Hd R->je (lZ R) R.length=tt ((texts R).drop 1)
 |[],_,h=>h.elim
 |[f],ho,h=>by show []++BV _ 0=_;unfold BV;rw[(NT ho (i:=0) (by simp)).1];simp[vG,texts]
 |f::g::R,ho,h=>by
  have h2:Hd (g::R):=h;have ho2:Ok (g::R):=fun x hx=>ho x (List.mem_cons_of_mem _ hx);have ih:=Y0 ho2 h2;show je (lZ (f::g::R)) (g::R).length++BV (lZ (f::g::R)) (g::R).length=_;rw[MU (d':=lZ (g::R)) (fun j hj=>by rw[lZ,if_neg (by omega)]),ih];unfold BV;rw[(NT ho (i:=(g::R).length) (by simp)).1,if_neg (by simp)];have e1:vG (f::g::R) (g::R).length=f.ts:=by rw[vG,if_pos rfl]
  rw[e1,List.drop_zero];have hne:=h2.texts;show _=tt ((texts (g::R)++f.ts).drop 1);rw[List.drop_append_of_le_length (by have:=List.length_pos_iff.2 hne;omega)];simp[tt]
theorem ab4(l:List ByteArray):tt (l.map fun s=>84::bl s)=l.map bl:=by
 induction l with
 |nil=>rfl
 |cons s l ih=>
  show t1 (84::bl s)++tt (l.map fun s=>84::bl s)=_;rw[ih];rfl
theorem aex{k:Nat}(hk:k<=1073741824):wH (80::put k)=some k:=by
 have h1:=get_put [80] [] k (by omega);simp only[List.append_nil,List.length_cons,List.length_nil]at h1;unfold wH;rw[show(80::put k:List UInt8)=[80]++put k from rfl,h1];split
 ·dsimp only;rw[if_pos ⟨by simp;omega,hk⟩]
 ·rename_i h;exact absurd rfl h
theorem ab5(t:List UInt8):wH (84::t)=none:=by unfold wH;rw[if_neg (by simp)]
theorem Y1(l:List ByteArray):dn (l.map bl)=l.map Value.string:=by unfold dn;rw[List.map_map];exact List.map_congr_left (fun s _=>by simp[yR])
section
variable{first:Int}{R:St}{m:aH.Safe}{k:Nat}{l:List ByteArray}
theorem Log.dat(h:Log first R [] m [])(i:Nat):Pt.dat m (first+i)=lZ R i:=by unfold Pt.dat;rw[(h.file i).2,jq];rfl
theorem Log.isf(h:Log first R [] m [])(i:Nat):cu m [] (first+i)=decide (i<R.length):=(h.file i).1
theorem Hd.len{R:St}(h:Hd R):0<R.length:=by
 cases R with
 |nil=>exact h.elim
 |cons f R=>simp
theorem found(h:Log first R [] m [])(hd:Hd R)(ht:texts R=kM k l)(hk:k<=1073741824):
  (∀i:Nat,0<i->i<R.length->Passed m (first+i))/\uz (Pt.dat m (first+(0:Nat)))=some k/\NS m (first+(0:Nat)) (R.length-1)/\txt m (first+(0:Nat)) (R.length-1)=l.map bl:=by
 have hpos:=hd.len;obtain⟨h1,r0,h2⟩:=Jy hd (p:=80::put k) (rest:=l.map fun s=>84::bl s) ht;have hno:∀i:Nat,0<i->i<R.length->uz (Pt.dat m (first+i))=none:=by
  intro i hi hl;rw[Log.dat h,(NT h.ok hl).2];rcases hts:vG R i with _|⟨t,r⟩
  ·rfl
  ·have:=h1 i hi t (by rw[hts];simp);rw[List.mem_map]at this;obtain⟨s,_,rfl⟩:=this;exact ab5 _
 refine⟨fun i hi hl=> .inl (hno i hi hl),?_,⟨fun j hj=> ?_,.inl ?_⟩,?_⟩
 ·rw[Log.dat h,(NT h.ok hpos).2,h2];exact aex hk
 ·have e:first+((0:Nat):Int)+1+(j:Int)=first+((j+1:Nat):Int):=by omega
  rw[e];exact⟨by rw[Log.isf h];simp;omega,hno (j+1) (by omega) (by omega)⟩
 ·have e:first+((0:Nat):Int)+1+((R.length-1:Nat):Int)=first+(R.length:Int):=by omega
  rw[e,Log.isf h];simp
 ·unfold txt;have e:(fun j:Nat=>Pt.dat m (first+((0:Nat):Int)+(j:Int)))=lZ R:=by funext j;rw[show first+((0:Nat):Int)+(j:Int)=first+(j:Int) by omega,Log.dat h]
  rw[e,show R.length-1+1=R.length by omega,Y0 h.ok hd,ht];show tt (l.map fun s=>84::bl s)=_;exact ab4 l
end
end Pt
namespace Pt
open aH Fr Vn Ops Wl
def total(fs:List o8):Nat:=(fs.map fun f=>(pR f).length).sum
structure Whole(fs:List o8):Prop where
 q:∀f∈fs,f.q=[]
 ts:∀f∈fs,f.ts≠[]
 ok:∀f∈fs,TJ f
end Pt
namespace Pt
open aH Fr Vn Ops Wl
structure ab6 where
 k:Int
 s:ByteArray
 A:Option Addr
 c:Nat
 l:List ByteArray
 n:Int
instance:Inhabited ab6:=⟨⟨0,⟨#[]⟩,none,0,[],0⟩⟩
end Pt
section
open Go.WideShapes Go.ChangeShapes
variable{H:Type}{enc:TypeId×Value->H}{W:World}{v:Value}{d:DataW H}{ps:List MemPlace}{r:Reach}{b0:Nat}
end
namespace Pt
open aH Fr Vn Ops Wl
def EV(d:Nat->Nat):Nat->Nat
 |0=>0
 |i+1=>EV d i+d i
theorem Y2{d:Nat->Nat}{b:Nat}(h:∀i,d i<=b):∀k,EV d k<=k*b
 |0=>Nat.zero_le _
 |k+1=>by have:=Y2 h k;have:=h k;show EV d k+d k<=_;rw[Nat.succ_mul];omega
section
variable{w:World}{B gp gw g n c:Nat}{F:Nat->Prop}{m:aH.Safe}{ps:List aH.Pc}{aX aQ first:Int}{R:St}{T:List (List UInt8)}{A:Option Addr}{l:List ByteArray}
theorem MV(h:lX w B gp gw g F n m ps aX aQ first R T A c l)(hf:Fits n m ps)(hK:(cur R T).length<=100000)(h2:first<=1073741824):
  Calls Tryz.prog 61 #[.pointer (some ⟨gp,0,none⟩)] w fun e w'=>e=.returned (.int .i64 (EV (fun j=>(dataOf m ps (first+j)).size) (cur R T).length:Nat))/\Kept aj w w':=by
 have hno:=xJ h.p;have hfi:=pZ h.d hf.i64 hf.n (by have:=hf.len;omega);have hif:=h.low.cu h.log;have hf1:=h.f1;have hsb:∀j:Nat,(dataOf m ps (first+j)).size<=66000:=fun j=>by rw[(h.log.file j).2,nI];exact YN (Pz h.log.ok h.log.T) j
 have hda:=fun(x:Int) (hx:0<=x/\x<=2305843009213693952) (W:World) (hW:Kept aj w W)=>zq (h.d.kept hW (fun _ _ z=>z)) x (gY hx.1 (by omega)) (by have:=hf.len;omega) (by have:=hf.file x;have:=hf.total;omega);obtain⟨d,hd⟩:∃d:Nat->Nat,(fun j:Nat=>(dataOf m ps (first+j)).size)=d:=⟨_,rfl⟩;have hdj:∀j:Nat,(dataOf m ps (first+j)).size=d j:=fun j=>by rw[<-hd]
 have hdb:∀j,d j<=66000:=fun j=>by rw[<-hdj j];exact hsb j
 have hsz:=Y2 hdb;obtain⟨K,hKe⟩:∃K,(cur R T).length=K:=⟨_,rfl⟩;rw[hKe]at hif hK⊢;rw[hd];have hp:=h.p;have c1:w.cell? ⟨gp,1,none⟩=some (.pointer (some ⟨g,0,none⟩)):=hp.cell 1;have jK:=ah hno;have qg:=ah hfi;have HIF:=ah hif;have GK:=ah hda;have HDJ:=ah hdj;have HDB:=ah hdb;have kR:=ah hsz;have HP:=ah hp;clear hno hfi hif hda hdj hdb hsz h hf hsb hd hp hKe;go_enter Tryz.func61,Tryz.ntmps61;go_wp2_with fail;refine jK.out.mono ?_;rintro e w' ⟨rfl,rfl⟩;go_wp2_with fail;refine qg.out.mono ?_;rintro e w1 ⟨fl,A1,c1',rfl,hfa,hown,-,hk1⟩;have hfl:=Jw hfa HIF.out (by omega) (by omega);have hlen:fl.length=K:=by rw[hfl];simp[nums]
 have hsrc:=Src.bF hown;rw[hlen]at hsrc⊢;have hget:∀i:Nat,i<K->fl[i]? =some (first+i):=by intro i hi;rw[hfl];unfold nums;rw[List.getElem?_map,List.getElem?_range hi];rfl
 have PL:=ah hsrc;have ab2:=ah hget;have gB:=ah hk1;clear hfa hown hk1 hfl hlen hsrc hget c1;go_wp2_with fail;go_loopw [3,14] (fun v3 v14 wr=>∃i:Nat,i<=K/\v14=.int .i64 i/\v3=.int .i64 (EV d i:Nat)/\Kept aj w1 wr) (fun _ v14 _=>K-(intOf v14).toNat)
 case atStart=>exact⟨0,Nat.zero_le _,rfl,rfl,Kept.refl _ _⟩
 case round=>
  obtain⟨i,hi,rfl,rfl,hk⟩:=hrel;by_cases hil:i<K
  ·have hx:=ab2.out i hil;obtain⟨ad,rfl,-,e0⟩:=zu.vC (PL.out.kept hk (fun _ _ z=>z)) (by omega) i _ hx;obtain⟨x,hxe⟩:∃x,first+(i:Int)=x:=⟨_,rfl⟩
   rw[hxe]at e0 hx;have hpr:=(HP.out.kept gB.out (fun z=>z)).kept hk (fun z=>z);have d1:wr.cell? ⟨gp,1,none⟩=some (.pointer (some ⟨g,0,none⟩)):=hpr.cell 1;have d2:wr.cell? ⟨gp,2,none⟩=some (.int .i64 first):=hpr.cell 2;have q1:first<=x:=by omega
   have hda:=GK.out x ⟨by omega,by omega⟩ wr (gB.out.then hk);obtain⟨D,hD⟩:∃D,dataOf m ps x=D:=⟨_,rfl⟩;have hDs:D.size=d i:=by rw[<-hD,<-hxe];exact HDJ.out i
   rw[hD]at hda;have hb1:=kR.out i;have hb2:=HDB.out i;have hst:EV d (i+1)=EV d i+D.size:=by rw[hDs];rfl
   have hq:EV d i<=6600000000:=by omega
   have hq2:D.size<=66000:=by omega
   obtain⟨z,hz⟩:∃z,EV d i=z:=⟨_,rfl⟩;rw[hz]at hst hq⊢;have HD:=ah hda;have HST:=ah hst;have HK:=ah hk;clear hk hx hpr hda hD hDs hb1 hb2 hst hz hxe;go_wp2_with fail;refine HD.out.mono ?_;rintro e w3 ⟨rfl,hk3⟩;have bu:=ah (HK.out.then hk3);clear hk3;go_wp2;go_roundw
   case rel=>exact⟨i+1,by omega,by go_num,by rw[HST.out];go_num,bu.out⟩
   case measure=>simp[intOf];omega
  ·obtain rfl:i=K:=by omega
   have HK:=ah (gB.out.then hk);clear hk;go_wp2;go_ret;exact⟨rfl,HK.out⟩
theorem Vt{v0:Value}{f:Int}(hp:ER w gp v0 g f (.slice A l.length c))(hr:Src w 1 A l.length (l.map Value.string))(hl:l.length<=1000000):
  Calls Tryz.prog 31 #[.pointer (some ⟨gp,0,none⟩)] w fun e w'=>∃A' c',e=.returned (.slice A' l.length c')/\aF 9 1 w.heap.size w' A' l.length c' (l.map Value.string)/\Below w.heap.size w w':=by
 have hno:=xJ hp;have hcl:=clone_any w A c l hr (by omega);have c3:w.cell? ⟨gp,3,none⟩=some (.slice A l.length c):=hp.cell 3;have jK:=ah hno;have oL:=ah hcl;clear hno hcl hp hr hl;go_enter Tryz.func31,Tryz.ntmps31;go_wp2_with fail;refine jK.out.mono ?_;rintro e w' ⟨rfl,rfl⟩;go_wp2_with fail;refine oL.out.mono ?_;rintro e w' ⟨A',c',rfl,h1,h2⟩;go_wp2;go_ret;exact⟨A',c',rfl,h1,h2⟩
end
end Pt
namespace Pt
open aH Fr Vn Ops Wl
section
variable{w:World}{B gp gw g n c:Nat}{F:Nat->Prop}{m:aH.Safe}{ps:List aH.Pc}{aX aQ first:Int}{R:St}{T:List (List UInt8)}{A:Option Addr}{l:List ByteArray}
def Y3(w:World)(B gp gw g:Nat)(F:Nat->Prop)(n:Nat)(m:aH.Safe)(ps:List aH.Pc)(aX aQ first:Int)(R:St)(T:List (List UInt8))(A:Option Addr)(c:Nat)(l:List ByteArray)(s:ByteArray)(e:Ending)(w':World):Prop:=
 e=.returned (.int .i64 0)/\∃F' A' c',lX w' B gp gw g F' n m (ps++[(first+lastOf (cur R T),bI (bM (84::bl s)))]) aX aQ first R (T++[84::bl s]) A' c' (l++[s])/\Kept (PF gp gw F A l.length c) w w'/\(∀k,F' k->F k\/w.heap.size<=k)/\(∀k,(Value.slice A' (l++[s]).length c').ownBlock=some k->(Value.slice A l.length c).ownBlock=some k\/w.heap.size<=k)
theorem Y4(h:lX w B gp gw g F n m ps aX aQ first R T A c l)(hf:Fits n m ps)(hB:B<=w.heap.size)(h2:first+lastOf (cur R T)<=1073741824)(hl:l.length<=1000000)(s:ByteArray)(hs:s.size<65536):
  Calls Tryz.prog 57 #[.pointer (some ⟨gp,0,none⟩),.string s] w (Y3 w B gp gw g F n m ps aX aQ first R T A c l s):=by
 have hno:=xJ h.p;have hlo:=fun W=>wC W s false (decide_eq_false (by omega));have hap:=GL h.d h.wl h.log hf h.f1 h2 (bI (84::bl s)) (by rw[nI];simp[bP];omega);rw[jq]at hap;have c0:w.cell? ⟨gp,0,none⟩=some (.pointer (some ⟨gw,0,none⟩)):=h.p.cell 0;have q1:¬9223372036854775807<(⟨#[84]⟩:ByteArray).size+s.size:=by show¬_<1+_;omega
 have H:=ah h;have jK:=ah hno;have Xq:=ah hlo;have YQ:=ah hap;have HF:=ah hf;have hM:l.length+1<=maxLen:=by unfold maxLen;omega
 have hY:(l.length+1)*16<=140737488355328:=by omega
 have Pe:=ah hM;have HY:=ah hY;clear h hno hlo hap hf hM hY;go_enter Tryz.func57,Tryz.ntmps57;go_wp2_with fail;refine jK.out.mono ?_;rintro e w' ⟨rfl,rfl⟩;go_wp2_with fail;refine(Xq.out _).mono ?_;rintro e w' ⟨rfl,rfl⟩;go_wp2_with fail;rw[adA];refine YQ.out.mono ?_;rintro e w3 ⟨rfl,F3,hd3,hG3,hw3,hk3⟩;have hp3:=H.out.p.kept hk3 (fun hh=>by rcases hh with hh|hh;exact H.out.EU.1 hh;exact H.out.EU.2.2 hh);have hr3:=aC H.out.row.1 hk3 (fun k hk hh=>by rcases hh with hh|hh;exact(H.out.FX hk).1 hh;exact(H.out.FX hk).2.2 hh);have d3:w3.cell? ⟨gp,3,none⟩=some (.slice A l.length c):=hp3.cell 3;have f3:=hp3.frozen 3;have hgl:=hp3.lt;have HD3:=ah hd3;have HG3:=ah hG3;have HW3:=ah hw3;have bu:=ah hk3;have BD:=ah hp3;have HR3:=ah hr3;have HOW:=ah (aC hr3 (F:=aj) ((Kept.refl _ w3).alloc (.cells #[.string s] 9)) (fun _ _ z=>z));clear hd3 hG3 hw3 hk3 hp3 hr3 q1 c0;go_wp2_with (at_builtin;refine aN yO (.tmp 26) (.tmp 28) rfl rfl (Value.slice A l.length c) rfl HOW.out 1 rfl (Src.dA (m:=1) (Has.new w3 9 #[.string s]) rfl) (BP _) Pe.out HY.out ?_;intro A9 c9 w9 Ac Ad Ae;have hkr:Kept (fun k=>(Value.slice A l.length c).ownBlock=some k) w3 w9:=Kept.grown ((Kept.refl _ w3).alloc _) Ad (fun k hk=> .inl hk);have hp9:=BD.out.kept hkr (fun hk=>(H.out.FX hk).2.1 rfl);have d9:=hp9.cell 3;have f9:=hp9.frozen 3;have vU:=ah Ac;have MC:=ah Ae;have uk:=ah hkr;have HP9:=ah hp9;clear Ac Ad Ae hkr hp9);go_ret;have vk:Kept (fun k=>k=gp) w9 (w9.setCell ⟨gp,3,none⟩ (.slice A9 (l.length+1) c9)):=(Kept.refl _ w9).put (.inl rfl);have hlen:(l++[s]).length=l.length+1:=by simp
 have hF3:∀k,F3 k->∀t cs,Has w3 k t cs->t≠64->t≠88->False:=fun k hk t cs hh e1 e2=>aZ.not HD3.out hh e1 e2 hk;have hdr:∀k,F3 k->¬(Value.slice A l.length c).ownBlock=some k:=fun k hk hb=>by obtain⟨cs,hh⟩:=jT HR3.out hb;exact hF3 k hk _ _ hh (by decide) (by decide)
 have hd9:=HD3.out.kept uk.out hdr;have ahN:=HP9.out.put 3 (.slice A9 (l.length+1) c9)
 have hw9:=HW3.out.kept uk.out (fun hk=>by obtain⟨cs,hh⟩:=jT HR3.out hk;exact Has.ne hh HW3.out (by decide) rfl)
 refine⟨rfl,F3,A9,c9,⟨hd9.kept vk (fun k hk e=>hF3 k hk _ _ (e▸BD.out) (by decide) (by decide)),?_,hw9.kept vk (fun e=>H.out.EU.2.2 e.symm),⟨?_,?_⟩,H.out.log.append (by simp[bP];omega),H.out.low.append (by omega),H.out.f1,?_,?_⟩,?_,fun k hk=>HG3.out k hk,?_⟩
 ·rw[hlen];exact ahN
 ·rw[hlen,List.map_append]
  exact aC vU.out vk (fun k hk e=>by obtain⟨cs,hh⟩:=jT vU.out hk;exact Has.ne hh (e▸HP9.out) (by decide) rfl)
 ·intro k hk;rw[hlen]at hk;rcases MC.out with e|e
  ·exact H.out.row.2 k (e.symm.trans hk)
  ·have h9:=e.symm.trans hk;injection h9 with h9;have:=bu.out.size;simp at h9;omega
 ·obtain⟨k,h3,h4⟩:=H.out.tx;exact⟨k,by rw[PK,<-h3,List.append_assoc],h4⟩
 ·intro x hx;rcases List.mem_append.1 hx with hx|hx
  ·exact H.out.hs x hx
  ·simp at hx;subst hx;exact hs
 ·refine(((bu.out.mono (fun k hk=> ?_)).then (uk.out.mono (fun k hk=> ?_)))).then (vk.mono (fun k hk=> ?_))
  ·rcases hk with hk|hk
   ·exact .inl hk
   ·exact .inr (.inr (.inl hk))
  ·exact .inr (.inr (.inr hk))
  ·exact .inr (.inl hk)
 ·intro k hk;rw[hlen]at hk;rcases MC.out with e|e
  ·exact .inl (e.symm.trans hk)
  ·have h9:=e.symm.trans hk;injection h9 with h9;have:=bu.out.size;simp at h9;exact .inr (by omega)
def Y5(w:World)(B gp gw g:Nat)(F:Nat->Prop)(n:Nat)(m:aH.Safe)(ps:List aH.Pc)(aX aQ first:Int)(R:St)(T:List (List UInt8))(A:Option Addr)(c:Nat)(l:List ByteArray)(e:Ending)(w':World):Prop:=
 (∃k:Int,e=.returned (.int .i64 k))/\lX w' B gp gw g F (n+ps.length) (l7 m ps) [] aX aQ first (cur R T) [] A c l/\Kept F w w'
theorem Y6(h:lX w B gp gw g F n m ps aX aQ first R T A c l)(hf:Fits n m ps):Calls Tryz.prog 60 #[.pointer (some ⟨g,0,none⟩)] w (Y5 w B gp gw g F n m ps aX aQ first R T A c l):=by have ES:=hf.total;refine(Pg h.d hf.i64 (by have:=hf.len;omega) (by have:=hf.n;omega) 100000 hf.file (by omega)).mono ?_;rintro e w' ⟨rfl,h1,h2⟩;refine⟨⟨_,rfl⟩,⟨h1,h.p.kept h2 h.EU.1,h.wl.kept h2 h.EU.2.1,⟨aC h.row.1 h2 (fun k hk=>(h.FX hk).1),h.row.2⟩,h.log.sync,h.low.sync,h.f1,?_,h.hs⟩,h2⟩;obtain⟨k,h3,h4⟩:=h.tx;refine⟨k,by rw[rF,List.append_nil,h3],?_⟩;rw[rF,lA0];omega
end
end Pt
namespace Mst
def xK(w:World)(a:Addr):Array Value:=((List.range 18).map fun j=>(w.cell? (a.add j)).getD undef).toArray
def B6(w:World)(a:Addr):Prop:=∀j,j<18->(w.cell? (a.add j)).isSome=true
def Dt(a:Addr):Sem Value:=loadVar 78 a
theorem vH(a:Addr):loadVar 78 a=Dt a:=rfl
theorem vI(w:World)(a:Addr)(h:B6 w a):(Dt a).run Tryz.prog w=.ok (.agg (xK w a)) w:=by
 have hl:=run_loadCells (P:=Tryz.prog) w a 18 (fun j=>(w.cell? (a.add j)).getD undef) (fun j hj=>by obtain⟨v,hv⟩:=Option.isSome_iff_exists.1 (h j hj);rw[hv];rfl)
 have hi:(Tryz.prog.info? 78).map (·.size)=some 18:=by kernel_rfl
 have hagg:∀W,(isAgg 78).run Tryz.prog W=.ok true W:=fun W=>by unfold isAgg;rw[Sem.run_bind,run_underlying Tryz.underlying78 W];rfl
 cases hq:Tryz.prog.info? 78 with
 |none=>simp[hq]at hi
 |some i=>
  have hs:i.size=18:=by simpa [hq]using hi
  unfold Dt;simp[loadVar,Sem.run_bind,hagg,sizeOf,typeInfo,hq,hs,hl,xK]
theorem MW{w:World}{a:Addr}{cs:List Value}(hn:cs.length=18)(h:∀j u,cs[j]? =some u->w.cell? (a.add j)=some u):B6 w a/\xK w a=cs.toArray:=by
 refine⟨fun j hj=> ?_,?_⟩
 ·rw[h j _ (lB0 (by omega))];rfl
 ·unfold xK;congr 1;apply List.ext_getElem?
  intro j;rcases Nat.lt_or_ge j 18 with hj|hj
  ·rw[List.getElem?_map,List.getElem?_range hj,lB0 (by omega:j<cs.length)];simp[h j _ (lB0 (by omega:j<cs.length))]
  ·rw[List.getElem?_eq_none (by simpa using hj),List.getElem?_eq_none (by omega)]
theorem vJ{w:World}{g:Nat}{cs:List Value}(hn:cs.length=18)(h:Has w g 78 cs.toArray):B6 w ⟨g,0,none⟩/\xK w ⟨g,0,none⟩=cs.toArray:=by
 refine MW hn fun j u hu=> ?_;have e1:((⟨g,0,none⟩:Addr).add j)=⟨g,j,none⟩:=by unfold Addr.add;split<;>simp_all
 rw[e1,h.cell];simpa using hu
end Mst
namespace Mst
open aJ Vn Go.Sort
theorem Ba(f:Nat->Int->Int):∀(l:List Int) (i:Nat),kJ f l i=0↔∀j x,l[j]? =some x->f (i+j) x=0
 |[],i=>by simp[kJ]
 |a::l,i=>by
  rw[kJ];split
  ·rename_i h;rw[Ba f l (i+1)];constructor
   ·intro h2 j x hx;cases j with
    |zero=>obtain rfl:a=x:=by simpa using hx
           exact h
    |succ j=>have:=h2 j x (by simpa using hx);rwa[show i+1+j=i+(j+1) by omega]at this
   ·intro h2 j x hx;have:=h2 (j+1) x (by simpa using hx);rwa[show i+(j+1)=i+1+j by omega]at this
  ·rename_i h;constructor
   ·intro h2;exact absurd h2 h
   ·intro h2;exact absurd (h2 0 a rfl) h
theorem MY{x:Int}:xZ x=0↔0<=x/\x<=1073741824:=by unfold xZ;split<;>constructor<;>intro h<;>first|omega|(simp at h;done)|rfl
theorem uH{l:List Int}:iG l=0↔∀x∈l,0<=x/\x<=1073741824:=by
 unfold iG;rw[Ba];constructor
 ·intro h x hx;obtain⟨j,hj⟩:=List.mem_iff_getElem?.1 hx;exact MY.1 (h j x hj)
 ·intro h j x hx;exact MY.2 (h x (lC0 hx))
theorem EW{l:List Int}{i:Nat}{x:Int}:wu l i x=0↔(0<=x/\x<4)/\(0<i->l.getD (i-1) 0<x):=by
 unfold wu;split
 ·rename_i h;constructor
  ·intro h2;omega
  ·intro h2;omega
 ·rename_i h;split
  ·rename_i h2;constructor
   ·intro h3;omega
   ·intro h3;have:=h3.2 h2.1;omega
  ·rename_i h2;constructor
   ·intro _;refine⟨by omega,fun h0=> ?_⟩;rcases Int.lt_or_le (l.getD (i-1) 0) x with h3|h3
    ·exact h3
    ·exact absurd ⟨h0,h3⟩ h2
   ·intro _;rfl
theorem Y7:∀(l:List Int),l.Pairwise (· <·)->(∀x∈l,0<=x)->∀(i:Nat) (x:Int),l[i]? =some x->(i:Int)<=x:=by
 intro l hl h0 i;induction i with
 |zero=>intro x hx;have:=h0 x (lC0 hx);simpa using this
 |succ i ih=>
  intro x hx;obtain⟨hi,e⟩:=lD0.1 hx;have h1:=ih l[i] (lB0 (by omega));have h2:=(List.pairwise_iff_getElem.1 hl) i (i+1) (by omega) hi (by omega);rw[e]at h2;omega
theorem Ai{l:List Int}:nO l=0↔(∀x∈l,0<=x/\x<4)/\l.Pairwise (· <·):=by
 unfold nO;split
 ·rename_i h;constructor
  ·intro h2;omega
  ·rintro⟨h1,h2⟩;have h3:=Y7 l h2 (fun x hx=>(h1 x hx).1) 4 l[4] (lB0 h);have:=h1 l[4] (List.getElem_mem h);omega
 ·rename_i h;rw[Ba];constructor
  ·intro h2;have hstep:∀i (hi:i+1<l.length),l[i]<l[i+1]:=by intro i hi;have:=(EW.1 (h2 (i+1) l[i+1] (lB0 hi))).2 (by omega);rw[Nat.zero_add,Nat.add_sub_cancel,List.getD_eq_getElem?_getD,lB0 (by omega:i<l.length)]at this;simpa using this
   refine⟨fun x hx=> ?_,List.pairwise_iff_getElem.2 ?_⟩
   ·obtain⟨j,hj⟩:=List.mem_iff_getElem?.1 hx;exact(EW.1 (h2 j x hj)).1
   ·intro i j hi hj hij;obtain⟨d,rfl⟩:∃d,j=i+1+d:=⟨j-(i+1),by omega⟩;clear hij;induction d with
    |zero=>exact hstep i hj
    |succ d ih=>exact Int.lt_trans (ih (by omega)) (hstep (i+1+d) hj)
  ·rintro⟨h1,h2⟩ j x hx;rw[Nat.zero_add];refine EW.2 ⟨h1 x (lC0 hx),fun h0=> ?_⟩;obtain⟨hj,e⟩:=lD0.1 hx;rw[List.getD_eq_getElem?_getD,lB0 (by omega:j-1<l.length)];have:=(List.pairwise_iff_getElem.1 h2) (j-1) j (by omega) hj (by omega);rw[e]at this;simpa using this
theorem SC{l:List Int}(h:nO l=0):l.length<=4:=by
 unfold nO at h;split at h
 ·omega
 ·omega
theorem rZ{l:List Int}{x:Int}:inB l x=true↔x∈l:=by unfold inB;exact List.contains_iff_mem
theorem MZ{l:List Int}{x:Int}:x∈tK l↔x∈l:=(List.mergeSort_perm l _).mem_iff
theorem P4{l:List Int}(hn:l.Nodup):(tK l).Pairwise (· <·):=by
 have h1:(tK l).Pairwise (fun a b=>decide (a<=b)=true):=List.pairwise_mergeSort (le:=fun a b:Int=>decide (a<=b)) (by intro a b c;simp;omega) (by intro a b;simp;omega) l;have h2:(tK l).Nodup:=(List.mergeSort_perm l _).nodup_iff.2 hn
 exact(List.Pairwise.and h1 h2).imp (fun{a b} h=>by have h3:=of_decide_eq_true h.1;have h4:=h.2;omega)
structure Inv(s:bQ):Prop where
 conf:(s.ep=0/\s.ms=[]/\s.fl=0/\s.lg=[])\/(chk s.ep s.ms=0/\nO s.lg=0/\(∀x∈s.lg,cO s.ms x=true)/\oh s.ms∈s.lg/\0<=s.fl)
 hz:0<=s.hz
 pl:s.pins.length<=3
 vZ:s.pins.Pairwise (fun a b=>a.id<b.id)
 pin:∀p∈s.pins,1<=p.id/\p.id<=s.top/\p.left=8/\0<=p.at'
 top:0<=s.top/\s.top<=1073741824
 a0:s.t0=jV\/(saidE s.t0=0/\s.t0.cl=0)
 a1:s.t1=jV\/(saidE s.t1=0/\s.t1.cl=1)
 a2:s.t2=jV\/(saidE s.t2=0/\s.t2.cl=2)
theorem inv0:Inv st0:=⟨.inl ⟨rfl,rfl,rfl,rfl⟩,by decide,by decide,List.Pairwise.nil,(fun p hp=>by cases hp),⟨by decide,by decide⟩,.inl rfl,.inl rfl,.inl rfl⟩
theorem Inv.ok{s:bQ}(h:Inv s):pY s:=by
 rcases h.conf with⟨_,h1,_,h2⟩|⟨h1,h2,_⟩
 ·exact⟨by rw[h1];decide,by rw[h2];decide,by have:=h.pl;omega⟩
 ·exact⟨by have:=(jf h1).2.2.1;omega,by have:=SC h2;omega,by have:=h.pl;omega⟩
theorem Na{l:List Mem}{x:Int}:cO l x=true↔∃m∈l,m.1=x:=by simp[cO]
theorem Vu{l:List aO}{id:Int}(h:bV l id<0):∀p∈l,p.id≠id:=by
 rcases I7 (fun x:aO=>decide (x.id=id)) l 0 with⟨_,h2⟩|⟨k,x,h1,_⟩
 ·intro p hp;exact of_decide_eq_false (h2 p hp)
 ·have:bV l id=((0+k:Nat):Int):=h1;omega
theorem Vw{l:List aO}{id:Int}(h:0<=bV l id):∃(k:Nat) (x:aO),bV l id=(k:Int)/\l[k]? =some x/\x.id=id:=by
 rcases jE l id with h1|h1
 ·omega
 ·exact h1
theorem P5{l:List aO}{id:Int}(h:∀p∈l,p.left=8)(h0:0<=bV l id):jk l id=l:=by
 unfold jk;obtain⟨k,y,h1,hy,hid⟩:=Vw h0;rw[h1,Int.toNat_natCast,hy];have hl:=h y (lC0 hy);have e:(⟨id,y.at',8⟩:aO)=y:=by rw[<-hid,<-hl]
 obtain⟨h2,h3⟩:=lD0.1 hy;show l.set k ⟨id,y.at',8⟩=l;rw[e,<-h3];exact List.set_getElem_self h2
theorem uI(l:List aO)(id:Int):(freed l id).Sublist l:=by
 unfold freed;split
 ·exact List.Sublist.refl _
 ·exact List.eraseIdx_sublist ..
theorem aey{x:aG}(h:aT x=0)(hk:x.k=7):0<=x.n/\x.n<=1073741824:=by unfold aT at h;rw[if_neg (by omega),if_neg (by omega),if_pos (by omega)]at h;exact uH.1 h x.n (by simp)
theorem Nb{x:aG}(h:aT x=0)(hk:x.k=6):0<=x.pin.id/\x.pin.id<=1073741824:=by unfold aT at h;rw[if_neg (by omega),if_neg (by omega),if_neg (by omega),if_pos hk]at h;exact uH.1 h x.pin.id (by simp)
theorem Jz{x:aG}(h:aT x=0)(hk:x.k=1):chk x.ep x.ms=0/\nO x.lg=0:=by
 unfold aT at h;rw[if_pos hk]at h;split at h
 ·rename_i h1;exact⟨h1,h⟩
 ·rename_i h1;exact absurd h h1
theorem JA{x:aG}(h:aT x=0)(hk:x.k=8):saidE x.said=0:=by unfold aT at h;rw[if_neg (by omega),if_neg (by omega),if_neg (by omega),if_neg (by omega),if_pos hk]at h;exact h
theorem aez{a:kP}(h:saidE a=0):a.cl=0\/a.cl=1\/a.cl=2:=by
 unfold saidE at h;split at h
 ·omega
 ·omega
theorem kS{s:bQ}{x:aG}(h:bn s x=0):aT x=0:=by
 unfold bn at h;split at h
 ·rename_i h1;exact absurd h h1
 ·rename_i h1;exact Classical.not_not.1 h1
theorem Bc{s:bQ}{x:aG}(h:bn s x=0):x.k=1\/x.k=5\/x.k=4\/x.k=6\/x.k=7\/x.k=8:=by
 have hn:=kS h;unfold bn at h;rw[if_neg (by simpa using hn)]at h;by_cases h1:x.k=1
 ·exact .inl h1
 by_cases h5:x.k=5
 ·exact .inr (.inl h5)
 by_cases h4:x.k=4
 ·exact .inr (.inr (.inl h4))
 by_cases h6:x.k=6
 ·exact .inr (.inr (.inr (.inl h6)))
 by_cases h7:x.k=7
 ·exact .inr (.inr (.inr (.inr (.inl h7))))
 by_cases h8:x.k=8
 ·exact .inr (.inr (.inr (.inr (.inr h8))))
 rw[if_neg h1,if_neg h5,if_neg h4,if_neg h6,if_neg h7,if_neg h8]at h;omega
theorem Y8{s:bQ}{x:aG}(h:bn s x=0):(x.k=1->mX s x=0)/\(x.k=5->cO s.ms x.n=true)/\(x.k=4->¬x.at'<s.hz)/\(x.k=6->oC s x.pin=0)/\(x.k=8->¬x.said.req<(toldOf s x.said.cl).req):=by
 have hn:=kS h;unfold bn at h;rw[if_neg (by simpa using hn)]at h;refine⟨fun hk=> ?_,fun hk=> ?_,fun hk=> ?_,fun hk=> ?_,fun hk=> ?_⟩
 ·rw[if_pos hk]at h;exact h
 ·rw[if_neg (by omega),if_pos hk]at h;split at h
  ·assumption
  ·omega
 ·rw[if_neg (by omega),if_neg (by omega),if_pos hk]at h;split at h
  ·omega
  ·assumption
 ·rw[if_neg (by omega),if_neg (by omega),if_neg (by omega),if_pos hk]at h;exact h
 ·rw[if_neg (by omega),if_neg (by omega),if_neg (by omega),if_neg (by omega),if_neg (by omega),if_pos hk]at h;split at h
  ·omega
  ·assumption
theorem Vx{s:bQ}{x:aG}(h:mX s x=0):s.ep<x.ep/\(∀y∈x.lg,cO x.ms y=true)/\oh x.ms∈x.lg:=by
 unfold mX at h;split at h
 ·omega
 ·split at h
  ·omega
  ·split at h
   ·omega
   ·rename_i h1 h2 h3;refine⟨by omega,fun y hy=> ?_,?_⟩
    ·cases hb:cO x.ms y
     ·exfalso;exact h2 (List.any_eq_true.2 ⟨y,hy,by rw[hb];rfl⟩)
     ·rfl
    ·refine rZ.1 ?_;cases hb:inB x.lg (oh x.ms)
     ·exact absurd hb h3
     ·rfl
theorem Y9{s:bQ}{p:aO}(h:oC s p=0)(h0:¬0<=bV s.pins p.id):s.pins.length<3/\s.top<p.id/\s.hz<=p.at':=by
 unfold oC at h;rw[if_neg h0]at h;split at h
 ·omega
 ·split at h
  ·omega
  ·split at h
   ·omega
   ·omega
theorem Vy{l:List Int}{id:Int}(h:nO l=0)(hid:0<=id/\id<4):nO (kY l id)=0:=by
 unfold kY;split
 ·exact h
 ·rename_i hn;obtain⟨h1,h2⟩:=Ai.1 h;refine Ai.2 ⟨fun x hx=> ?_,P4 ?_⟩
  ·rcases List.mem_append.1 (MZ.1 hx)with h|h
   ·exact h1 x h
   ·obtain rfl:x=id:=by simpa using h
    exact hid
  ·rw[List.nodup_append];refine⟨h2.imp (fun{a b} h=>by omega),by simp,fun a ha b hb e=> ?_⟩;obtain rfl:b=id:=by simpa using hb
   exact hn (rZ.2 (e▸ha))
theorem Nc{l:List Int}{id x:Int}:x∈kY l id↔x∈l\/x=id:=by
 unfold kY;split
 ·rename_i h;constructor
  ·exact .inl
  ·rintro(h1|rfl)
   ·exact h1
   ·exact rZ.1 h
 ·rw[MZ];simp
theorem P6{ep:Int}{l:List Mem}{id:Int}(h:chk ep l=0)(hm:cO l id=true):0<=id/\id<4:=by obtain⟨m,hin,rfl⟩:=Na.1 hm;exact(jf h).2.2.2.id m hin
theorem Inv.apply{s:bQ}{x:aG}(h:Inv s)(hg:0<=x.at'/\0<=x.pin.at'/\0<=x.fl):
  Inv (aP s x)/\s.hz<=(aP s x).hz/\s.ep<=(aP s x).ep/\(bn s x=0->x.k=6->s.pins.length<(aP s x).pins.length->s.hz<=x.pin.at'):=by
 by_cases h0:bn s x=0
 ·have hn:=kS h0;obtain⟨f1,f5,f4,f6,f8⟩:=Y8 h0;have hS:∀s',(if bn s x≠0 then s else s')=s':=fun s'=>by rw[if_neg (by simpa using h0)]
  rcases Bc h0 with hk|hk|hk|hk|hk|hk
  ·obtain⟨g1,g2,g3⟩:=Vx (f1 hk);obtain⟨g4,g5⟩:=Jz hn hk;have e:aP s x={s with ep:=x.ep,ms:=x.ms,fl:=x.fl,lg:=x.lg}:=by unfold aP;rw[hS,if_pos hk]
   rw[e];refine⟨⟨.inr ⟨g4,g5,g2,g3,hg.2.2⟩,h.hz,h.pl,h.vZ,h.pin,h.top,h.a0,h.a1,h.a2⟩,Int.le_refl _,Int.le_of_lt g1,fun _ h6=>by omega⟩
  ·have e:aP s x={s with lg:=kY s.lg x.n}:=by unfold aP;rw[hS,if_neg (by omega),if_pos hk]
   have hm:=f5 hk;rw[e];refine⟨⟨?_,h.hz,h.pl,h.vZ,h.pin,h.top,h.a0,h.a1,h.a2⟩,Int.le_refl _,Int.le_refl _,fun _ h6=>by omega⟩;rcases h.conf with⟨_,c1,_⟩|⟨c1,c2,c3,c4,c5⟩
   ·rw[c1]at hm;simp[cO]at hm
   ·refine .inr ⟨c1,Vy c2 (P6 c1 hm),fun y hy=> ?_,Nc.2 (.inl c4),c5⟩;rcases Nc.1 hy with hy|rfl
    ·exact c3 y hy
    ·exact hm
  ·have e:aP s x={s with hz:=x.at'}:=by unfold aP;rw[hS,if_neg (by omega),if_neg (by omega),if_pos hk]
   have:=f4 hk;rw[e];exact⟨⟨h.conf,hg.1,h.pl,h.vZ,h.pin,h.top,h.a0,h.a1,h.a2⟩,by show s.hz<=x.at';omega,Int.le_refl _,fun _ h6=>by omega⟩
  ·have e:aP s x=jy s x.pin:=by unfold aP;rw[hS,if_neg (by omega),if_neg (by omega),if_neg (by omega),if_pos hk]
   rw[e];unfold jy;split
   ·rename_i hp;rw[P5 (fun p hp=>(h.pin p hp).2.2.1) hp];exact⟨h,Int.le_refl _,Int.le_refl _,fun _ _ hl=>absurd hl (Nat.lt_irrefl _)⟩
   ·rename_i hp;obtain⟨g1,g2,g3⟩:=Y9 (f6 hk) hp;obtain⟨g4,g5⟩:=Nb hn hk;have ht:=h.top;refine⟨⟨h.conf,h.hz,by simp;omega,?_,?_,⟨g4,g5⟩,h.a0,h.a1,h.a2⟩,Int.le_refl _,Int.le_refl _,fun _ _ _=>g3⟩
    ·rw[List.pairwise_append];refine⟨h.vZ,by simp,fun a ha b hb=> ?_⟩;obtain rfl:b=⟨x.pin.id,x.pin.at',8⟩:=by simpa using hb
     have:=(h.pin a ha).2.1;show a.id<x.pin.id;omega
    ·intro p hp;rcases List.mem_append.1 hp with hp|hp
     ·obtain⟨a1,a2,a3,a4⟩:=h.pin p hp;exact⟨a1,by show p.id<=x.pin.id;omega,a3,a4⟩
     ·obtain rfl:p=⟨x.pin.id,x.pin.at',8⟩:=by simpa using hp
      exact⟨by show 1<=x.pin.id;omega,Int.le_refl _,rfl,hg.2.1⟩
  ·have e:aP s x={s with pins:=freed s.pins x.n,top:=max s.top x.n}:=by unfold aP;rw[hS,if_neg (by omega),if_neg (by omega),if_neg (by omega),if_neg (by omega),if_pos hk]
   obtain⟨g1,g2⟩:=aey hn hk;have hsub:=uI s.pins x.n;have ht:=h.top;rw[e];refine⟨⟨h.conf,h.hz,Nat.le_trans hsub.length_le h.pl,h.vZ.sublist hsub,fun p hp=> ?_,?_,h.a0,h.a1,h.a2⟩,Int.le_refl _,Int.le_refl _,fun _ h6=>by omega⟩
   ·obtain⟨a1,a2,a3,a4⟩:=h.pin p (hsub.subset hp);exact⟨a1,by show p.id<=max s.top x.n;omega,a3,a4⟩
   ·show 0<=max s.top x.n/\max s.top x.n<=1073741824;omega
  ·have e:aP s x=jA s x.said:=by unfold aP;rw[hS,if_neg (by omega),if_neg (by omega),if_neg (by omega),if_neg (by omega),if_neg (by omega)]
   have hs:=JA hn hk;rw[e];unfold jA;rcases aez hs with hc|hc|hc
   ·rw[if_pos hc];exact⟨⟨h.conf,h.hz,h.pl,h.vZ,h.pin,h.top,.inr ⟨hs,hc⟩,h.a1,h.a2⟩,Int.le_refl _,Int.le_refl _,fun _ h6=>by omega⟩
   ·rw[if_neg (by omega),if_pos hc];exact⟨⟨h.conf,h.hz,h.pl,h.vZ,h.pin,h.top,h.a0,.inr ⟨hs,hc⟩,h.a2⟩,Int.le_refl _,Int.le_refl _,fun _ h6=>by omega⟩
   ·rw[if_neg (by omega),if_neg (by omega)];exact⟨⟨h.conf,h.hz,h.pl,h.vZ,h.pin,h.top,h.a0,h.a1,.inr ⟨hs,hc⟩⟩,Int.le_refl _,Int.le_refl _,fun _ h6=>by omega⟩
 ·have e:aP s x=s:=by unfold aP;rw[if_pos h0]
  rw[e];exact⟨h,Int.le_refl _,Int.le_refl _,fun h1=>absurd h1 h0⟩

/- Part 20. -/
import Derived.Test.YtomccaocggplgaaGreatMP18
set_option linter.unusedSimpArgs false
set_option linter.unusedVariables false
set_option maxHeartbeats 32000000
set_option maxRecDepth 100000
namespace Go.Proofs.YtomccaocggplgaaGreat
open Go.RowKit
namespace Pt
open aH Fr Vn Ops Wl
def t1:List UInt8->List (List UInt8)
 |c::r=>if c=84 then [r]else []
 |[]=>[]
def tt(l:List (List UInt8)):List (List UInt8):=l.flatMap t1
theorem TQ(l:List (List UInt8))(t:List UInt8):tt (l++[t])=tt l++t1 t:=by simp[tt]
theorem YF(l:List (List UInt8)):(tt l).length<=l.length:=by
 induction l with
 |nil=>exact Nat.le_refl _
 |cons t l ih=>
  show(t1 t++tt l).length<=_;have:(t1 t).length<=1:=by
   cases t with
   |nil=>exact Nat.zero_le _
   |cons c r=>simp only[t1];split<;>simp
  rw[lA0,List.length_cons];omega
def BV(d:Nat->List UInt8)(j:Nat):List (List UInt8):=tt ((dF (aY (d j))).drop (if j=0 then 1 else 0))
def je(d:Nat->List UInt8):Nat->List (List UInt8)
 |0=>[]
 |j+1=>je d j++BV d j
theorem aeu(d:Nat->List UInt8)(j:Nat)(h:(d j).length<=1000000):(BV d j).length<=1000001:=by have h1:=YF ((dF (aY (d j))).drop (if j=0 then 1 else 0));have h2:=FU (aY (d j));have h3:(aY (d j)).length<=(d j).length+1:=sZ _ _ _;unfold BV;rw[List.length_drop]at h1;omega
theorem TR(d:Nat->List UInt8)(h:∀j,(d j).length<=1000000):∀k,(je d k).length<=k*1000001
 |0=>Nat.zero_le _
 |k+1=>by have h1:=TR d h k;have h2:=aeu d k (h k);show(je d k++BV d k).length<=_;rw[lA0,Nat.succ_mul];omega
theorem abN{b:List UInt8}{c:Nat}(h:uz b=some c):0<(dF (aY b)).length:=by
 unfold uz at h;rcases hR:nextR b 0 with e0|⟨t,to⟩
 ·rw[hR]at h;cases h
 ·have hto:=CZ hR;unfold aY fJ;rw[if_neg (by omega),hR];show 0<(t::dF _).length;simp
theorem Me(s:ByteArray):(s.toList !=[])=decide (0<s.size):=by rw[ByteArray.toList_eq,<-bP];cases h:bl s<;>simp[h]
theorem PD{s:ByteArray}(h:s.size=0):t1 (bl s)=[]:=by have:bl s=[]:=lE0 (by rw[bP];exact h);rw[this];rfl
theorem TS(s:ByteArray)(h:0<s.size):bl s=s[0]::bl (s.extract 1 s.size):=by
 have h1:bl (s.extract 1 s.size)=(bl s).drop 1:=by show(s.extract 1 s.size).data.toList=_;rw[Lib.extract_data];simp only[bl];rw[List.take_of_length_le (by rw[List.length_drop,Array.length_toList];exact Nat.le_refl _)]
 rw[h1];have h2:0<(bl s).length:=by rw[bP];exact h
 have h3:(bl s).drop 0=(bl s)[0]::(bl s).drop 1:=List.drop_eq_getElem_cons h2;rw[List.drop_zero]at h3;exact h3
theorem YG{s:ByteArray}(h:0<s.size)(h84:s[0]=84):t1 (bl s)=[bl (s.extract 1 s.size)]:=by rw[TS s h,h84];rfl
theorem TT{s:ByteArray}(h:0<s.size)(h84:s[0]≠84):t1 (bl s)=[]:=by rw[TS s h];simp only[t1];rw[if_neg h84]
theorem PE{w:World}{A:Option Addr}{k:Nat}{l:List (List UInt8)}(h:Src w 1 A k (dn l))(hm:0<k)(i:Nat)(p:List UInt8)(hp:l[i]? =some p):
  ∃ad:Addr,A=some ad/\ad.block<w.heap.size/\w.cell? (ad.add i)=some (.string (bI p)):=by
 obtain⟨ad,e,hb,hc⟩:=h.2 hm;exact⟨ad,e,hb,hc i _ (by unfold dn;rw[List.getElem?_map,hp];rfl)⟩
def kF(a l:List (List UInt8))(i:Nat):List (List UInt8):=a++tt (l.take i)
theorem oO(a l:List (List UInt8)):kF a l 0=a:=by simp[kF,tt]
theorem abO(a l:List (List UInt8)):kF a l l.length=a++tt l:=by simp[kF]
theorem PG{a l:List (List UInt8)}{i:Nat}{p r:List UInt8}(hp:l[i]? =some p)(h:t1 p=[r]):kF a l (i+1)=kF a l i++[r]:=by unfold kF;rw[aH.take_snoc hp,TQ,h,List.append_assoc]
theorem Aa{a l:List (List UInt8)}{i:Nat}{p:List UInt8}(hp:l[i]? =some p)(h:t1 p=[]):kF a l (i+1)=kF a l i:=by unfold kF;rw[aH.take_snoc hp,TQ,h,List.append_nil]
theorem Ih(a l:List (List UInt8))(i:Nat):(kF a l i).length<=a.length+l.length:=by
 have h1:=YF (l.take i);have h2:=List.length_take_le i l;have h3:(l.take i).length<=l.length:=by rw[List.length_take];omega
 unfold kF;rw[lA0];omega
theorem Sz(l:List (List UInt8))(t:List UInt8):dn (l++[t])=dn l++[.string (bI t)]:=by simp[dn]
theorem BP(x:ByteArray):∀u∈[Value.string x],u.oneCell'=true:=by
 intro u hu;obtain rfl:u=.string x:=by simpa using hu
 rfl
theorem PI{w wr w9:World}{A' A9 AL:Option Addr}{c' c9 m1:Nat}{acc l:List (List UInt8)}{s:ByteArray}(hr:aF 9 1 w.heap.size wr A' acc.length c' (dn acc))(hk:Kept aj w wr)(hs:Src wr 1 AL m1 (dn l))
  (ho:w9.ownsRow 0 9 1 (.slice A9 (acc.length+1) c9) (acc.length+1) (dn acc++[.string s])) (hg:(wr.alloc (.cells #[.string s] 9)).grownBy w9 (Value.slice A' acc.length c').ownBlock)
  (ha:(Value.slice A9 (acc.length+1) c9).ownBlock=(Value.slice A' acc.length c').ownBlock\/(Value.slice A9 (acc.length+1) c9).ownBlock=some (wr.alloc (.cells #[.string s] 9)).heap.size)
  (hb:∀ad:Addr,AL=some ad->(Value.slice A' acc.length c').ownBlock≠some ad.block) (hm:0<m1):
  aF 9 1 w.heap.size w9 A9 (acc.length+1) c9 (dn (acc++[bl s]))/\Kept aj w w9/\Src w9 1 AL m1 (dn l)/\∀ad:Addr,AL=some ad->(Value.slice A9 (acc.length+1) c9).ownBlock≠some ad.block:=by
 have hka:Kept (fun k=>(Value.slice A' acc.length c').ownBlock=some k) wr w9:=Kept.grown ((Kept.refl _ wr).alloc _) hg (fun k hk=> .inl hk);refine⟨⟨?_,fun k hk9=> ?_⟩,hk.trans hka (fun k hk=> .inr (hr.2 k hk)),hs.kept hka (fun ad e=>hb ad e),fun ad e h=> ?_⟩
 ·rw[Sz,yR];exact ho
 ·rcases ha with e|e
  ·exact hr.2 k (e.symm.trans hk9)
  ·have h9:=e.symm.trans hk9;injection h9 with h9;have:=hk.size;simp at h9;omega
 ·rcases ha with e2|e2
  ·exact hb ad e (e2.symm.trans h)
  ·obtain⟨DV,e3,hlt,_⟩:=hs.2 hm;rw[e]at e3;injection e3 with e3;subst e3;have h9:=e2.symm.trans h;injection h9 with h9;simp at h9;omega
def YH(w:World)(want:Nat)(L:List (List UInt8))(e:Ending)(w':World):Prop:=
 ∃A c,e=.returned (.tuple #[.slice A L.length c,.bool (decide (want<=L.length))])/\aF 9 1 w.heap.size w' A L.length c (dn L)/\Kept aj w w'
section
variable{F:Nat->Prop}{w:World}{g n:Nat}{m:aH.Safe}{ps:List aH.Pc}{aX aQ:Int}
theorem YI(h:aZ w g F n m ps aX aQ)(f:Int)(K want:Nat)(hpi:∀p∈ps,I64 p.1)(hn:n<=100000)(hlen:ps.length<=100000)(hsz:∀x,(dataOf m ps x).size<=1000000)(hsz2:∀x,(dU m x).size+total ps<=1000000000)(hf0:0<=f)(hfK:f+K<=1073841824)(hK:K<=100000)
  (h0:uz (bl (dataOf m ps f))=some want)
  (h1:∀j:Nat,j<K->cu m ps (f+1+j)=true/\uz (bl (dataOf m ps (f+1+j)))=none) (h2:cu m ps (f+1+K)=false\/∃c,uz (bl (dataOf m ps (f+1+K)))=some c):
  Calls Tryz.prog 69 #[.pointer (some ⟨g,0,none⟩),.int .i64 f] w (YH w want (je (fun j:Nat=>bl (dataOf m ps (f+j))) (K+1))):=by
 have hbe:=Dp h f (gY hf0 (by omega)) hlen (by have:=hsz f;omega) (by have:=hsz2 f;omega);have hen:=fun(W:World) (hW:Kept aj w W)=>BU (h.kept hW (fun _ _ z=>z)) f K hpi hn hlen hsz2 hf0 (by omega) h1 h2;have hda:=fun(x:Int) (hx:0<=x/\x<=2305843009213693952) (W:World) (hW:Kept aj w W)=>zq (h.kept hW (fun _ _ z=>z)) x (gY hx.1 (by omega)) hlen (by have:=hsz2 x;omega);obtain⟨d,hd⟩:∃d:Nat->List UInt8,(fun j:Nat=>bl (dataOf m ps (f+j)))=d:=⟨_,rfl⟩;have hdj:∀j:Nat,bl (dataOf m ps (f+j))=d j:=fun j=>by rw[<-hd]
 have hdl:∀j,(d j).length<=1000000:=fun j=>by rw[<-hdj j,bP];exact hsz _
 have hd0:uz (d 0)=some want:=by rw[<-hdj 0];simpa using h0
 have hrl:=TR d hdl;rw[h0]at hbe;rw[hd];unfold KJ at hbe;have uZ:=ah hbe;have HEN:=ah hen;have GK:=ah hda;have HDJ:=ah hdj;have HDL:=ah hdl;have HD0:=ah hd0;have HRL:=ah hrl;clear hbe hen hda hdj hdl hd0 hrl h0 h1 h2 h hpi hn hlen hsz hsz2 hd;go_enter Tryz.func69,Tryz.ntmps69;go_wp2_with fail;refine uZ.out.mono ?_;rintro e w1 ⟨rfl,hk1⟩;have gB:=ah hk1;clear hk1;go_wp2_with fail;go_loopw [8,9] (fun v8 v9 wr=>∃(j:Nat) (A:Option Addr) (c:Nat),j<=K+1/\v9=.int .i64 (f+j)/\v8=.slice A (je d j).length c/\aF 9 1 w.heap.size wr A (je d j).length c (dn (je d j))/\Kept aj w wr) (fun _ v9 _=>(f+K+1-intOf v9).toNat)
 case atStart=>exact⟨0,none,0,Nat.zero_le _,by simp,rfl,⟨⟨rfl,.inl ⟨rfl,rfl⟩⟩,fun k hk=>by cases hk⟩,gB.out⟩
 case round=>
  obtain⟨j,A,c,hj,rfl,rfl,hrow,hk⟩:=hrel;obtain⟨x,hx⟩:∃x,f+(j:Int)=x:=⟨_,rfl⟩;have hx1:0<=x:=by omega
  have hx2:x<=2305843009213693952:=by omega
  rw[hx];have HX:=ah hx;have bZ:=ah hrow;have HK:=ah hk;have hen:=HEN.out wr hk;have HE:=ah hen;clear hrow hk hen hx;by_cases hjK:j<K+1
  ·have q1:x<f+1+(K:Int):=by have:=HX.out;omega
   have hdd:=GK.out x ⟨hx1,hx2⟩;obtain⟨D,hD⟩:∃D,dataOf m ps x=D:=⟨_,rfl⟩;have hDj:bl D=d j:=by rw[<-hD,<-HX.out];exact HDJ.out j
   rw[hD]at hdd;have hDs:D.size<=1000000:=by rw[<-bP,hDj];exact HDL.out j
   have hal:=fun W=>O9 W D hDs;have HDD:=ah hdd;have HAL:=ah hal;have abP:=ah hDj;clear hdd hal hD hDs hDj;go_wp2_with fail;refine HE.out.mono ?_;rintro e w2 ⟨rfl,hk2⟩;have aV:=ah (HK.out.then hk2);have Vj:=ah (bZ.out.kept hk2);clear hk2;go_wp2_with fail;refine(HDD.out _ aV.out).mono ?_;rintro e w3 ⟨rfl,hk3⟩;have bu:=ah (aV.out.then hk3);have qT:=ah (Vj.out.kept hk3);clear hk3;go_wp2_with fail;refine(HAL.out _).mono ?_;rintro e w4 ⟨A2,c2,rfl,hn2,hb2⟩;have hk4:Kept aj w3 w4:=Kept.of_below hb2 (fun k hk _=>hk);have eY:=ah (bu.out.then hk4);have Vk:=ah (qT.out.kept hk4);have hcap2:=gJ hn2.1;have hlen2:(dF (aY (bl D))).length<=1000001:=by have h1:=FU (aY (bl D));have h2:(aY (bl D)).length<=(bl D).length+1:=sZ _ _ _;have h3:=HDL.out j;rw[<-abP.out]at h3;omega
   obtain⟨l0,hl0⟩:∃l0,dF (aY (bl D))=l0:=⟨_,rfl⟩;rw[hl0]at hn2 hcap2 hlen2⊢;have HL0:=ah hl0;have hend:∀i,i=(l0.drop (if j=0 then 1 else 0)).length->kF (je d j) (l0.drop (if j=0 then 1 else 0)) i=je d (j+1):=by rintro i rfl;rw[abO];show _=je d j++BV d j;unfold BV;rw[<-abP.out,HL0.out]
   have hrl:(je d j).length<=100001000001:=by have:=HRL.out j;have h9:j*1000001<=100001*1000001:=Nat.mul_le_mul_right _ (by omega);omega
   have jI:=ah hend;have TA:=ah hn2.2;clear hl0 hend hk4 hb2;by_cases hj0:j=0
   ·have hpos:0<l0.length:=by rw[<-HL0.out,abP.out,hj0];exact abN HD0.out
    obtain⟨nl,hnl⟩:∃nl,l0.length=nl+1:=⟨l0.length-1,by omega⟩;have hsr:=Src.bF hn2.1;obtain⟨ad,rfl,_,_⟩:=hsr.2 hpos;have hsd:=hsr.drop (k:=1) hpos hcap2.1;rw[hnl]at hsr hcap2 hsd hlen2⊢;have MB:x=f:=by have:=HX.out;omega
    have qe:(x==f)=true:=by simpa using MB
    have hdl:(l0.drop (if j=0 then 1 else 0)).length=nl:=by rw[if_pos hj0,List.length_drop,hnl];omega
    have e1:(dn l0).drop (1*1)=dn (l0.drop (if j=0 then 1 else 0)):=by rw[if_pos hj0];unfold dn;rw[List.map_drop]
    rw[e1]at hsd;have hcc:(nl:Int)+1<=c2:=by omega
    have hc1:(1:Int)<=c2:=by omega
    have Vl:=ah hdl;have uD:=ah hsd;have HXF:=ah MB;clear hsr hsd e1 hdl hn2 hnl MB hpos hj0;by_cases afH:c2=1
    ·subst afH;obtain rfl:nl=0:=by omega
     rw[if_pos rfl]at uD;obtain⟨l,hl⟩:∃l,l0.drop (if j=0 then 1 else 0)=l:=⟨_,rfl⟩;rw[hl]at Vl uD jI;have mO:=ah Vl.out
     have Jq:Hid (∀rG:Addr,(some ad)=some rG->(Value.slice A (je d j).length c).ownBlock≠some rG.block):=ah (by intro rG e h;have h1:=mD qT.out.1 h;have h2:=TA.out rG.block (by injection e with e;subst e;rfl);omega)
     clear hl;go_wp2_with fail;go_loopw [8,14,44] (fun v8 _ v44 wr=>∃(i:Nat) (A':Option Addr) (c':Nat),i<=0/\v44=.int .i64 i/\v8=.slice A' (kF (je d j) l i).length c'/\aF 9 1 w.heap.size wr A' (kF (je d j) l i).length c' (dn (kF (je d j) l i))/\Kept aj w wr/\Src wr 1 (some ad) 0 (dn l)/\∀rG:Addr,(some ad)=some rG->(Value.slice A' (kF (je d j) l i).length c').ownBlock≠some rG.block) (fun _ _ v44 _=>0-(intOf v44).toNat)
     case atStart=>exact⟨0,A,c,Nat.zero_le _,rfl,by rw[oO],by rw[oO];exact Vk.out,eY.out,uD.out,by rw[oO];exact Jq.out⟩
     case round=>
      obtain⟨i,A',c',hi,rfl,rfl,hr,hk,hsw,hsn⟩:=hrel;have hal:=Ih (je d j) l i;rw[mO.out]at hal;by_cases hil:i<0
      ·omega
      ·have hie:=jI.out i (by rw[mO.out];omega);rw[hie]at hr;have YJ:=ah hie;have HR:=ah hr;have dB:=ah hk;clear hr hk hie hal hsw hsn;go_wp2;go_roundw
       case rel=>exact⟨j+1,A',c',by omega,by have:=HX.out;congr 1;omega,by rw[YJ.out],HR.out,dB.out⟩
       case measure=>have:=HX.out;simp[intOf];omega
    ·rw[if_neg afH]at uD;obtain⟨l,hl⟩:∃l,l0.drop (if j=0 then 1 else 0)=l:=⟨_,rfl⟩;rw[hl]at Vl uD jI;have hsd2:Src w4 1 (some ⟨ad.block,ad.off+1,none⟩) nl (dn l):=by have h9:=uD.out;rw[Option.map_some,add_lit ad (by decide)]at h9;exact h9
     clear uD;have uD:=ah hsd2;have mO:=ah Vl.out
     have Jq:Hid (∀rG:Addr,(some ⟨ad.block,ad.off+1,none⟩)=some rG->(Value.slice A (je d j).length c).ownBlock≠some rG.block):=ah (by intro rG e h;have h1:=mD qT.out.1 h;have h2:=TA.out rG.block (by injection e with e;subst e;rfl);omega)
     clear hl hsd2;go_wp2_with fail;go_loopw [8,14,44] (fun v8 _ v44 wr=>∃(i:Nat) (A':Option Addr) (c':Nat),i<=nl/\v44=.int .i64 i/\v8=.slice A' (kF (je d j) l i).length c'/\aF 9 1 w.heap.size wr A' (kF (je d j) l i).length c' (dn (kF (je d j) l i))/\Kept aj w wr/\Src wr 1 (some ⟨ad.block,ad.off+1,none⟩) nl (dn l)/\∀rG:Addr,(some ⟨ad.block,ad.off+1,none⟩)=some rG->(Value.slice A' (kF (je d j) l i).length c').ownBlock≠some rG.block) (fun _ _ v44 _=>nl-(intOf v44).toNat)
     case atStart=>exact⟨0,A,c,Nat.zero_le _,rfl,by rw[oO],by rw[oO];exact Vk.out,eY.out,uD.out,by rw[oO];exact Jq.out⟩
     case round=>
      obtain⟨i,A',c',hi,rfl,rfl,hr,hk,hsw,hsn⟩:=hrel;have hal:=Ih (je d j) l i;rw[mO.out]at hal;by_cases hil:i<nl
      ·obtain⟨p,hp⟩:∃p,l[i]? =some p:=⟨_,lB0 (by rw[mO.out];exact hil)⟩;obtain⟨ad',e,had,e0⟩:=PE hsw (by omega) i p hp;obtain rfl:ad'=⟨ad.block,ad.off+1,none⟩:=by injection e with e;exact e.symm
       obtain⟨s,hs⟩:∃s,bI p=s:=⟨_,rfl⟩;have hbs:p=bl s:=by rw[<-hs,jq]
       rw[hs]at e0;have e0':wr.cell? ⟨ad.block,ad.off+1+i,none⟩=some (.string s):=by rw[<-e0];congr 1;unfold Addr.add;split<;>simp_all
       have he:=rQ s;have he2:=Me s;have HR:=ah hr;have dB:=ah hk;have Jr:=ah hsw;have vT:=ah hsn;rw[hbs]at hp;have HP:=ah hp;clear hr hk hs hbs hp had hsw hsn;by_cases hz:s.size=0
       ·rw[decide_eq_true hz]at he;rw[decide_eq_false (by omega)]at he2;have hm:=Aa (a:=je d j) HP.out (PD hz);have HM:=ah hm;clear hm hz;go_wp2;go_roundw
        case rel=>exact⟨i+1,A',c',by omega,by go_num,by rw[HM.out],by rw[HM.out];exact HR.out,dB.out,Jr.out,by rw[HM.out];exact vT.out⟩
        case measure=>simp[intOf];omega
       ·rw[decide_eq_false hz]at he;rw[decide_eq_true (by omega)]at he2;have hpos:0<s.size:=by omega
        have hlt:s[0].toNat<256:=UInt8.toNat_lt _;by_cases h84:s[0]=84
        ·have hq:((s[0].toNat:Int)==84)=true:=by rw[h84];rfl
         have hh:=PG (a:=je d j) HP.out (YG hpos h84);have hone:(1:Int)<=s.size:=by omega
         have HH:=ah hh;have hM:(kF (je d j) l i).length+1<=maxLen:=by unfold maxLen;omega
         have hY:((kF (je d j) l i).length+1)*16<=140737488355328:=by omega
         have Pe:=ah hM;have HY:=ah hY;have HOW:=ah (aC HR.out.1 (F:=aj) ((Kept.refl _ wr).alloc (.cells #[.string (s.extract 1 s.size)] 9)) (fun _ _ z=>z));clear hh h84 hM hY hal;go_wp2_with (at_builtin;refine aN yO (.tmp 55) (.tmp 58) rfl rfl (Value.slice A' (kF (je d j) l i).length c') rfl HOW.out 1 rfl (Src.dA (m:=1) (Has.new wr 9 #[.string (s.extract 1 s.size)]) rfl) (BP _) Pe.out HY.out ?_;intro A9 c9 w9 Ac Ad Ae;have vU:=ah Ac;have YK:=ah Ad;have MC:=ah Ae;clear Ac Ad Ae);obtain⟨f1,f2,f3,f4⟩:=PI HR.out dB.out Jr.out vU.out YK.out MC.out vT.out (by omega);have Yr:=ah f1;have HF2:=ah f2;have HF3:=ah f3;have HF4:=ah f4;clear f1 f2 f3 f4;go_roundw
         case rel=>exact⟨i+1,A9,c9,by omega,by go_num,by rw[HH.out,lA0];rfl,by rw[HH.out,lA0];exact Yr.out,HF2.out,HF3.out,by rw[HH.out,lA0];exact HF4.out⟩
         case measure=>simp[intOf];omega
        ·have abQ:s[0].toNat≠84:=fun h=>h84 (UInt8.toNat_inj.1 (by rw[h];rfl));have hq:((s[0].toNat:Int)==84)=false:=by simp;omega
         have hm:=Aa (a:=je d j) HP.out (TT hpos h84);have HM:=ah hm;clear hm h84 abQ;go_wp2;go_roundw
         case rel=>exact⟨i+1,A',c',by omega,by go_num,by rw[HM.out],by rw[HM.out];exact HR.out,dB.out,Jr.out,by rw[HM.out];exact vT.out⟩
         case measure=>simp[intOf];omega
      ·have hie:=jI.out i (by rw[mO.out];omega);rw[hie]at hr;have YJ:=ah hie;have HR:=ah hr;have dB:=ah hk;clear hr hk hie hal hsw hsn;go_wp2;go_roundw
       case rel=>exact⟨j+1,A',c',by omega,by have:=HX.out;congr 1;omega,by rw[YJ.out],HR.out,dB.out⟩
       case measure=>have:=HX.out;simp[intOf];omega
   ·have MB:x≠f:=by have:=HX.out;omega
    have qe:(x==f)=false:=by simpa using MB
    obtain⟨l,hl⟩:∃l,l0.drop (if j=0 then 1 else 0)=l:=⟨_,rfl⟩;have abR:l=l0:=by rw[<-hl,if_neg hj0,List.drop_zero]
    rw[hl]at jI;have hsd:=Src.bF hn2.1;rw[<-abR]at hsd;have hlen3:l.length=l0.length:=by rw[abR]
    have uD:Hid (Src w4 1 A2 l0.length (dn l)):=ah (by rw[<-hlen3];exact hsd);have mO:=ah hlen3
    have Jq:Hid (∀rG:Addr,A2=some rG->(Value.slice A (je d j).length c).ownBlock≠some rG.block):=ah (by intro rG e h;have h1:=mD qT.out.1 h;have h2:=TA.out rG.block (by rw[e];rfl);omega)
    clear hl abR hsd hlen3 hn2 MB hj0;go_wp2_with fail;go_loopw [8,14,44] (fun v8 _ v44 wr=>∃(i:Nat) (A':Option Addr) (c':Nat),i<=l0.length/\v44=.int .i64 i/\v8=.slice A' (kF (je d j) l i).length c'/\aF 9 1 w.heap.size wr A' (kF (je d j) l i).length c' (dn (kF (je d j) l i))/\Kept aj w wr/\Src wr 1 A2 l0.length (dn l)/\∀rG:Addr,A2=some rG->(Value.slice A' (kF (je d j) l i).length c').ownBlock≠some rG.block) (fun _ _ v44 _=>l0.length-(intOf v44).toNat)
    case atStart=>exact⟨0,A,c,Nat.zero_le _,rfl,by rw[oO],by rw[oO];exact Vk.out,eY.out,uD.out,by rw[oO];exact Jq.out⟩
    case round=>
     obtain⟨i,A',c',hi,rfl,rfl,hr,hk,hsw,hsn⟩:=hrel;have hal:=Ih (je d j) l i;rw[mO.out]at hal;by_cases hil:i<l0.length
     ·obtain⟨p,hp⟩:∃p,l[i]? =some p:=⟨_,lB0 (by rw[mO.out];exact hil)⟩;obtain⟨ad',e,had,e0⟩:=PE hsw (by omega) i p hp;obtain rfl:=e;obtain⟨s,hs⟩:∃s,bI p=s:=⟨_,rfl⟩;have hbs:p=bl s:=by rw[<-hs,jq]
      rw[hs]at e0;skip;have he:=rQ s;have he2:=Me s;have HR:=ah hr;have dB:=ah hk;have Jr:=ah hsw;have vT:=ah hsn;rw[hbs]at hp;have HP:=ah hp;clear hr hk hs hbs hp had hsw hsn;by_cases hz:s.size=0
      ·rw[decide_eq_true hz]at he;rw[decide_eq_false (by omega)]at he2;have hm:=Aa (a:=je d j) HP.out (PD hz);have HM:=ah hm;clear hm hz;go_wp2;go_roundw
       case rel=>exact⟨i+1,A',c',by omega,by go_num,by rw[HM.out],by rw[HM.out];exact HR.out,dB.out,Jr.out,by rw[HM.out];exact vT.out⟩
       case measure=>simp[intOf];omega
      ·rw[decide_eq_false hz]at he;rw[decide_eq_true (by omega)]at he2;have hpos:0<s.size:=by omega
       have hlt:s[0].toNat<256:=UInt8.toNat_lt _;by_cases h84:s[0]=84
       ·have hq:((s[0].toNat:Int)==84)=true:=by rw[h84];rfl
        have hh:=PG (a:=je d j) HP.out (YG hpos h84);have hone:(1:Int)<=s.size:=by omega
        have HH:=ah hh;have hM:(kF (je d j) l i).length+1<=maxLen:=by unfold maxLen;omega
        have hY:((kF (je d j) l i).length+1)*16<=140737488355328:=by omega
        have Pe:=ah hM;have HY:=ah hY;have HOW:=ah (aC HR.out.1 (F:=aj) ((Kept.refl _ wr).alloc (.cells #[.string (s.extract 1 s.size)] 9)) (fun _ _ z=>z));clear hh h84 hM hY hal;go_wp2_with (at_builtin;refine aN yO (.tmp 55) (.tmp 58) rfl rfl (Value.slice A' (kF (je d j) l i).length c') rfl HOW.out 1 rfl (Src.dA (m:=1) (Has.new wr 9 #[.string (s.extract 1 s.size)]) rfl) (BP _) Pe.out HY.out ?_;intro A9 c9 w9 Ac Ad Ae;have vU:=ah Ac;have YK:=ah Ad;have MC:=ah Ae;clear Ac Ad Ae);obtain⟨f1,f2,f3,f4⟩:=PI HR.out dB.out Jr.out vU.out YK.out MC.out vT.out (by omega);have Yr:=ah f1;have HF2:=ah f2;have HF3:=ah f3;have HF4:=ah f4;clear f1 f2 f3 f4;go_roundw
        case rel=>exact⟨i+1,A9,c9,by omega,by go_num,by rw[HH.out,lA0];rfl,by rw[HH.out,lA0];exact Yr.out,HF2.out,HF3.out,by rw[HH.out,lA0];exact HF4.out⟩
        case measure=>simp[intOf];omega
       ·have abQ:s[0].toNat≠84:=fun h=>h84 (UInt8.toNat_inj.1 (by rw[h];rfl));have hq:((s[0].toNat:Int)==84)=false:=by simp;omega
        have hm:=Aa (a:=je d j) HP.out (TT hpos h84);have HM:=ah hm;clear hm h84 abQ;go_wp2;go_roundw
        case rel=>exact⟨i+1,A',c',by omega,by go_num,by rw[HM.out],by rw[HM.out];exact HR.out,dB.out,Jr.out,by rw[HM.out];exact vT.out⟩
        case measure=>simp[intOf];omega
     ·have hie:=jI.out i (by rw[mO.out];omega);rw[hie]at hr;have YJ:=ah hie;have HR:=ah hr;have dB:=ah hk;clear hr hk hie hal hsw hsn;go_wp2;go_roundw
      case rel=>exact⟨j+1,A',c',by omega,by have:=HX.out;congr 1;omega,by rw[YJ.out],HR.out,dB.out⟩
      case measure=>have:=HX.out;simp[intOf];omega
  ·have q1:¬x<f+1+(K:Int):=by have:=HX.out;omega
   obtain rfl:j=K+1:=by omega
   go_wp2_with fail;refine HE.out.mono ?_;rintro e w2 ⟨rfl,hk2⟩;go_wp2;go_ret2;exact⟨A,c,rfl,bZ.out.kept hk2,HK.out.then hk2⟩
end
end Pt
namespace Pt
open aH Fr Vn Ops Wl
theorem KN(w:World):Calls Tryz.prog 109 #[.int .i64 0] w fun e w'=>e=.returned (.tuple #[])/\w=w':=by go_enter Tryz.func109,Tryz.ntmps109;go_wp2;go_end0;exact⟨rfl,rfl⟩
theorem wC(w:World)(s:ByteArray)(b:Bool)(hb:decide ((65536:Int)<=(s.size:Int))=b):Calls Tryz.prog 119 #[.string s] w fun e w'=>e=.returned (.bool b)/\w=w':=by subst hb;go_enter Tryz.func119,Tryz.ntmps119;go_wp2;go_ret;exact⟨rfl,rfl⟩
theorem clone_any(w:World)(A:Option Addr)(c:Nat)(l:List ByteArray)(hl:Src w 1 A l.length (l.map Value.string))(hlen:l.length<=1000000000):
  Calls Tryz.prog 74 #[.slice A l.length c] w fun e w'=>∃A' c',e=.returned (.slice A' l.length c')/\aF 9 1 w.heap.size w' A' l.length c' (l.map Value.string)/\Below w.heap.size w w':=by
 have hnil:∀W n' c',(binOp .eql 89 (.slice A l.length c) (.slice none n' c')).run Tryz.prog W=.ok (.bool A.isNone) W:=fun W n' c'=>Lib.run_eql_slice_nil W _ _ A _ _ _ _ Tryz.underlying89;cases A with
 |none=>
  obtain rfl:l=[]:=by
   rcases l with _|⟨a,l⟩
   ·rfl
   ·obtain⟨ad,h,_⟩:=hl.2 (by simp);cases h
  clear hl hlen;have hnil0:∀W n' c',(binOp .eql 89 (.slice none 0 c) (.slice none n' c')).run Tryz.prog W=.ok (.bool true) W:=fun W n' c'=>Lib.run_eql_slice_nil W _ _ none _ _ _ _ Tryz.underlying89;clear hnil;go_enter Tryz.func74,Tryz.ntmps74;go_wp2;go_ret;exact⟨none,0,rfl,⟨⟨rfl,.inl ⟨rfl,rfl⟩⟩,fun k hk=>by cases hk⟩,Below.refl _ _⟩
 |some ad=>
  simp only[Option.isNone_some]at hnil;have hk1:Kept aj w (w.alloc (.cells #[] 9)):=(Kept.refl _ _).alloc _;have hown:(w.alloc (.cells #[] 9)).ownsRow 0 9 1 (.slice (some ⟨w.heap.size,0,none⟩) 0 0) 0 []:=uj (Has.new w 9 #[]) rfl;have HS:=ah (hl.kept hk1 (fun _ _ z=>z));have HO:=ah hown;have hone:∀u∈l.map Value.string,u.oneCell'=true:=by intro u hu;rw[List.mem_map]at hu;obtain⟨x,_,rfl⟩:=hu;rfl
  have wG:=ah hone;have hM:0+l.length<=maxLen:=by unfold maxLen;omega
  have hY:(0+l.length)*16<=140737488355328:=by omega
  have HM:=ah hM;have HY:=ah hY;clear hl hown hone hM hY hk1 hlen;go_enter Tryz.func74,Tryz.ntmps74;go_wp2_with (at_builtin;refine aN yO (.tmp 5) (.tmp 6) rfl rfl (Value.slice (some ⟨w.heap.size,0,none⟩) 0 0) rfl HO.out c rfl HS.out wG.out HM.out HY.out ?_;intro A9 c9 w9 Ac Ad Ae;have vU:=ah Ac;have YK:=ah Ad;have MC:=ah Ae;clear Ac Ad Ae);go_ret;have ho:=vU.out;rw[Nat.zero_add,List.nil_append]at ho;have ha:=MC.out;rw[Nat.zero_add]at ha;refine⟨A9,c9,rfl,⟨ho,fun k hk=> ?_⟩,?_⟩
  ·rcases ha with e|e
   ·have h9:=e.symm.trans hk;simp[Value.ownBlock]at h9;omega
   ·have h9:=e.symm.trans hk;injection h9 with h9;simp at h9;omega
  ·exact(Kept.grown ((Kept.refl aj w).alloc _) YK.out (fun k hk=>by simp[Value.ownBlock]at hk;exact .inr (by omega))).below (Nat.le_refl _) (fun _ z=>z.elim)
theorem KO(W:World):(Instr.typeAssert .nilIface 20 32 true).run Tryz.prog W=.ok (.tuple #[.int .i64 0,.bool false]) W:=by kernel_rfl
theorem YL(w:World)(p:Option Addr):Calls Tryz.prog 108 #[.nilIface,.pointer p] w fun e w'=>e=.returned (.tuple #[])/\w'=w:=by have hta:=fun W=>KO W;go_enter Tryz.func108,Tryz.ntmps108;go_wp2;go_end0;exact⟨rfl,rfl⟩
theorem YM(w:World)(y1:Nat):
  CallsD Tryz.prog 107 #[.pointer (some ⟨y1,0,none⟩)] .returning w fun e u w'=>e=.returned (.tuple #[])/\u=.returning/\w'=w:=by
 have hst:=YL w (some ⟨y1,0,none⟩);refine callsD_of_wpS Tryz.func107 rfl fun c₀ cs hu=> ?_;apply wpS_region;simp[wpOpsS,go_sem,recoverD,hu,Tryz.ntmps107,Exit.thenS];refine hst.mono ?_;rintro e w' ⟨rfl,rfl⟩;refine⟨rfl,.returning,?_,_,results_none rfl _ _ _,rfl,rfl,rfl⟩;cases c₀;simp_all
end Pt
namespace Wl
open aH Fr Vn Ops
structure Low(first:Int)(m:aH.Safe)(ps:List aH.Pc):Prop where
 file:∀x,x<first->(dU m x).size=0
 pc:∀p∈ps,first<=p.1
theorem xI(first:Int):∀(R:St) (T:List (List UInt8)),(∀t∈T,t.length<=65536)->∀p∈jl first R T,p.2.size<=65549/\first<=p.1/\p.1<=first+(R.length+T.length:Nat)
 |R,[],_,p,hp=>by cases hp
 |R,t::T,hT,p,hp=>by
  rcases List.mem_cons.1 hp with rfl|hp
  ·refine⟨by rw[nI];exact Ie (hT t (by simp)),?_,?_⟩
   ·show first<=first+(lastOf R:Int);omega
   ·have:=EN R;show first+(lastOf R:Int)<=_;omega
  ·obtain⟨h1,h2,h3⟩:=xI first (app R t) T (fun x hx=>hT x (by simp[hx])) p hp
   have:=Ig R t;exact⟨h1,h2,by simp only[List.length_cons];omega⟩
section
variable{first:Int}{R:St}{T:List (List UInt8)}{m:aH.Safe}{ps:List aH.Pc}
theorem Low.pcs(h:Low first m ps)(hl:Log first R T m ps):ps=jl first R T:=by rw[<-hl.rest,List.filter_eq_self.2];intro p hp;have:=h.pc p hp;simpa [mine]using this
theorem YN{R:St}(h:Ok R)(i:Nat):(lZ R i).length<=66000:=by
 induction R with
 |nil=>exact Nat.zero_le _
 |cons f R ih=>
  simp only[lZ];split
  ·exact(h f (by simp)).size
  ·exact ih (fun g hg=>h g (List.mem_cons_of_mem _ hg))
theorem Low.size(h:Low first m ps)(hl:Log first R T m ps)(f:Int):(dU m f).size<=66000:=by
 by_cases hf:f<first
 ·rw[h.file f hf];exact Nat.zero_le _
 ·have h2:=hl.safe (f-first).toNat;rw[show first+((f-first).toNat:Int)=f by omega]at h2;unfold dU;rw[h2,AX,nI];exact YN hl.ok _
theorem Low.fits{n:Nat}(h:Low first m ps)(hl:Log first R T m ps)(h1:1<=first)(h2:first+(R.length+T.length:Nat)<=1073741824)(hn:n<=100000)(hT:T.length<100000):Fits n m ps:=by
 have hp:=h.pcs hl;refine⟨hn,by rw[hp,xH];exact hT,fun f=>by have:=h.size hl f;omega,fun p hq=> ?_⟩;rw[hp]at hq;obtain⟨h3,h4,h5⟩:=xI first R T hl.T p hq
 exact⟨h3,by omega,by omega⟩
end
end Wl
namespace Pt
open aH Fr Vn Ops Wl
def kM(k:Nat)(l:List ByteArray):List (List UInt8):=(80::put k)::l.map fun s=>84::bl s
theorem PK(k:Nat)(l:List ByteArray)(s:ByteArray):kM k (l++[s])=kM k l++[84::bl s]:=by simp[kM]
theorem uF(k:Nat)(l:List ByteArray):(kM k l).length=l.length+1:=by simp[kM]
theorem aZ.not{F:Nat->Prop}{w:World}{g n k:Nat}{m:aH.Safe}{ps:List aH.Pc}{aX aQ:Int}{t:TypeId}{cs:Array Value}(h:aZ w g F n m ps aX aQ)(hh:Has w k t cs)(h1:t≠64)(h2:t≠88):¬F k:=by
 obtain⟨mb,A,c,hF,hg,hm,ho⟩:=h;intro hf;rcases(hF k).1 hf with rfl|rfl|hx
 ·exact hg.ne hh (fun e=>h1 e.symm) rfl
 ·exact hm.ne hh rfl
 ·exact own_ne ho hh (fun e=>h2 e.symm) hx
theorem Src.YO{F:Nat->Prop}{w w':World}{size m:Nat}{A:Option Addr}{news:List Value}(h:Src w size A m news)(hk:Kept F w w')(hf:0<m->∀ad,A=some ad->¬F ad.block):Src w' size A m news:=by
 rcases Nat.eq_zero_or_pos m with rfl|h0
 ·have e:news=[]:=lE0 (by have:=h.1;omega);rw[e];exact Src.nil _ _ _
 ·exact h.kept hk (hf h0)
theorem TU(a b:List UInt8):bI a++bI b=bI (a++b):=by apply ByteArray.ext;simp[bI]
abbrev ER(w:World)(gp:Nat)(v0:Value)(g:Nat)(first:Int)(v3:Value):Prop:=Has w gp 107 #[v0,.pointer (some ⟨g,0,none⟩),.int .i64 first,v3]
def ME(w:World)(gp g:Nat)(F:Nat->Prop)(n:Nat)(m:aH.Safe)(ps:List aH.Pc)(aX aQ f:Int)(l:List ByteArray)(e:Ending)(w':World):Prop:=
 e=.returned (.int .i64 0)/\∃F' gw A c,aZ w' g F' (n+(ps++jl f [] (kM l.length l)).length) (l7 m (ps++jl f [] (kM l.length l))) [] aX aQ/\D3 w' gw g (f+lastOf (cur [] (kM l.length l)))/\ER w' gp (.pointer (some ⟨gw,0,none⟩)) g f (.slice A l.length c)/\
  aF 9 1 w.heap.size w' A l.length c (l.map Value.string)/\w.heap.size<=gw/\jG w F F'/\Kept (fun k=>F k\/k=gp) w w'
section
variable{F:Nat->Prop}{w:World}{g gp n:Nat}{m:aH.Safe}{ps:List aH.Pc}{aX aQ f first:Int}
theorem aev(T:List (List UInt8)):lastOf (cur [] T)<=T.length:=by have h1:=EN (cur [] T);have h2:=Dk [] T;simp at h2;omega
structure GM(w:World)(gp g be:Nat)(F:Nat->Prop)(n:Nat)(m:aH.Safe)(ps:List aH.Pc)(aX aQ f:Int)(gw:Nat)(T:List (List UInt8))(F':Nat->Prop)(wr:World):Prop where
 d:aZ wr g F' n m (ps++jl f [] T) aX aQ
 wl:D3 wr gw g (f+lastOf (cur [] T))
 grows:jG w F F'
 k:Kept F w wr
 be:Has wr be 32 #[.int .i64 0]
theorem GM.app{be gw:Nat}{T:List (List UInt8)}{F':Nat->Prop}{wr w3:World}(h:GM w gp g be F n m ps aX aQ f gw T F' wr)(hl:Log f [] T m (ps++jl f [] T))(hgw:w.heap.size<=gw){t:List UInt8}{F3:Nat->Prop}
  (hd:aZ w3 g F3 n m (ps++jl f [] T++[(f+lastOf (cur [] T),bI (bM t))]) aX aQ) (hg:jG wr F' F3) (hw:D3 w3 gw g (f+lastOf (cur [] (T++[t])))) (hk:Kept (fun k=>F' k\/k=gw) wr w3):GM w gp g be F n m ps aX aQ f gw (T++[t]) F3 w3:=by
 refine⟨?_,hw,h.grows.trans hg h.k.size,h.k.trans hk (fun k hk=> ?_),h.be.kept hk (fun hf=> ?_)⟩
 ·rw[Dl,<-List.append_assoc];exact hd
 ·rcases hk with hk|rfl
  ·exact h.grows k hk
  ·exact .inr hgw
 ·rcases hf with hf|rfl
  ·exact aZ.not h.d h.be (by decide) (by decide) hf
  ·exact h.be.ne h.wl (by decide) rfl
theorem GM.keep{be gw:Nat}{T:List (List UInt8)}{F':Nat->Prop}{wr w3:World}(h:GM w gp g be F n m ps aX aQ f gw T F' wr)(hk:Kept aj wr w3):GM w gp g be F n m ps aX aQ f gw T F' w3:=
 ⟨h.d.kept hk (fun _ _ z=>z),h.wl.kept hk (fun z=>z),h.grows,h.k.then (hk.mono (fun _ z=>z.elim)),h.be.kept hk (fun z=>z)⟩
theorem YP{T:List (List UInt8)}(h:Log f [] [] m ps)(hT:∀t∈T,t.length<=65536):Log f [] T m (ps++jl f [] T):=by
 refine⟨h.safe,?_,h.ok,hT⟩
 have h1:(jl f [] T).filter (mine f)=jl f [] T:=List.filter_eq_self.2 (fun p hp=>by have:=xI f [] T hT p hp;simpa [mine]using this.2.1)
 rw[List.filter_append,h1,h.rest];rfl
theorem TV{T:List (List UInt8)}(h:Fits n m ps)(hT:∀t∈T,t.length<=65536)(h1:1<=f)(h2:f+T.length<=1073741824)(h3:ps.length+T.length<100000):Fits n m (ps++jl f [] T):=by
 refine⟨h.n,by rw[lA0,xH];exact h3,h.file,fun p hp=> ?_⟩;rcases List.mem_append.1 hp with hp|hp
 ·exact h.pc p hp
 ·obtain⟨h4,h5,h6⟩:=xI f [] T hT p hp;simp at h6;exact⟨h4,by omega,by omega⟩
theorem Js{be gw:Nat}{T:List (List UInt8)}{F':Nat->Prop}{wr:World}(h:GM w gp g be F n m ps aX aQ f gw T F' wr)(hl:Log f [] [] m ps)(hf:Fits n m ps)(hT:∀t∈T,t.length<=65536)(hgw:w.heap.size<=gw)(h1:1<=f)(h2:f+T.length<=1073741824)(h3:ps.length+T.length<100000)(s:ByteArray)(hs:s.size<=65536):
  Calls Tryz.prog 110 #[.pointer (some ⟨gw,0,none⟩),.string s] wr fun e w'=>e=.returned (.int .i64 0)/\∃F3,GM w gp g be F n m ps aX aQ f gw (T++[bl s]) F3 w':=by
 have AY:=YP hl hT;have hct:=aev T;refine(GL h.d h.wl AY (TV hf hT h1 h2 h3) h1 (by omega) s hs).mono ?_;rintro e w3 ⟨he,F3,hd,hg,hw,hk⟩;exact⟨he,F3,h.app AY hgw hd hg hw hk⟩
end
end Pt
namespace Pt
open aH Fr Vn Ops Wl
section
variable{F:Nat->Prop}{w:World}{g gp n:Nat}{m:aH.Safe}{ps:List aH.Pc}{aX aQ f first:Int}
theorem ag6(p:List UInt8):(⟨#[80]⟩:ByteArray)++bI p=bI (80::p):=TU [80] p
theorem adA(s:ByteArray):(⟨#[84]⟩:ByteArray)++s=bI (84::bl s):=by have:=TU [84] (bl s);rw[yR]at this;exact this
theorem MF(v0 v3:Value)(hp:ER w gp v0 g first v3)(hd:aZ w g F n m ps aX aQ)(AY:Log f [] [] m ps)(hf:Fits n m ps)(A:Option Addr)(c:Nat)(l:List ByteArray)(hA:Src w 1 A l.length (l.map Value.string))
  (MG:0<l.length->∀ad,A=some ad->¬F ad.block/\ad.block≠gp) (hs:∀s∈l,s.size<65536) (h1:1<=f) (h2:f+l.length+2<=1073741824) (h3:ps.length+l.length+2<100000):
  Calls Tryz.prog 53 #[.pointer (some ⟨gp,0,none⟩),.int .i64 f,.slice A l.length c] w (ME w gp g F n m ps aX aQ f l):=by
 have hmf:∀(fn:Fn) (first cap:Array Value) (w:World),(Instr.makeFunc fn first cap).run Tryz.prog w=.ok (.func fn first cap) w:=fun _ _ _ _=>rfl;obtain⟨R,hR⟩:∃R,ME w gp g F n m ps aX aQ f l=R:=⟨_,rfl⟩;rw[hR];have HR:=ah hR;obtain⟨W1,hW1⟩:∃W1,w.alloc (.cells #[.int .i64 0] 32)=W1:=⟨_,rfl⟩;have hk1:Kept aj w W1:=by rw[<-hW1];exact(Kept.refl _ _).alloc _
 have hbe:Has W1 w.heap.size 32 #[.int .i64 0]:=by rw[<-hW1];exact Has.new _ _ _
 have hd1:=hd.kept hk1 (fun _ _ z=>z);have hp1:=hp.kept hk1 (fun z=>z);have c1:w.cell? ⟨gp,1,none⟩=some (.pointer (some ⟨g,0,none⟩)):=hp.cell 1;have hgl:=hp.lt;have afI:¬F gp:=aZ.not hd hp (by decide) (by decide);have hop:=Mc hd1 AY hf h1 (by omega) (by decide);have hput:=fun W=>yS l.length (by omega) W;have hpl:=nD (n:=l.length) (by omega);obtain⟨p,hpe⟩:∃p,put l.length=p:=⟨_,rfl⟩;rw[hpe]at hput hpl;have HW1:=ah hW1;have gB:=ah hk1;have uZ:=ah hbe;have HD:=ah hd;have HP:=ah hp;have LK:=ah hop;have Hr:=ah hput;have GN:=ah hpl;have DW:=ah hpe;have afJ:=ah AY;have HF:=ah hf;have HA:=ah hA;have HAF:=ah MG;have HS:=ah hs;have HGF:=ah afI;have hpz:(bI p).size=p.length:=nI p;have q1:¬9223372036854775807<(⟨#[80]⟩:ByteArray).size+(bI p).size:=by rw[hpz];show¬_<1+_;omega
 clear hR hW1 hk1 hbe hd1 hp1 hd hp hop hput hpl hpe AY hf hA MG hs afI hpz;go_enter_defers Tryz.func53,Tryz.ntmps53;go_wp2_with fail;rw[HW1.out];refine LK.out.mono ?_;rintro e w2 ⟨gw,A2,c2,rfl,hwl,hgw,-,hb2⟩;have hk2:Kept aj w w2:=gB.out.then (Kept.of_below hb2 (fun k hk _=>hk));have afK:GM w gp g w.heap.size F n m ps aX aQ f gw [] F w2:=⟨by show aZ w2 g F n m (ps++[]) aX aQ;rw[List.append_nil];exact HD.out.kept hk2 (fun _ _ z=>z),hwl,jG.refl _ _,hk2.mono (fun _ z=>z.elim),uZ.out.kept (Kept.of_below (F:=aj) hb2 (fun k hk _=>hk)) (fun z=>z)⟩;have abS:w.heap.size<=gw:=Nat.le_trans gB.out.size hgw;have HB:=ah afK;clear hwl hgw hb2 hk2 afK c1;go_wp2_with fail;refine(KN _).mono ?_;rintro e w' ⟨rfl,rfl⟩;go_wp2_with fail;refine(Hr.out _).mono ?_;rintro e w3 ⟨rfl,hk3⟩;have HB3:=ah (HB.out.keep hk3);have hnt:∀t∈([]:List (List UInt8)),t.length<=65536:=fun t ht=>by cases ht
 have hap:=Js HB3.out afJ.out HF.out hnt abS h1 (by simp;omega) (by simp;omega) (bI (80::p)) (by rw[nI];simp;have:=GN.out;omega);have e1:([]:List (List UInt8))++[bl (bI (80::p))]=kM l.length (l.take 0):=by rw[jq,<-DW.out];rfl
 rw[e1]at hap;have YQ:=ah hap;clear hk3 hap e1 hnt;go_wp2_with fail;rw[ag6];refine YQ.out.mono ?_;rintro e w4 ⟨rfl,F4,hb4⟩;have HB4:=ah hb4;clear hb4 q1;go_wp2_with fail;refine(KN _).mono ?_;rintro e w' ⟨rfl,rfl⟩;go_wp2_with fail;go_loopw [35] (fun v35 wr=>∃(i:Nat) (F':Nat->Prop),i<=l.length/\v35=.int .i64 i/\GM w gp g w.heap.size F n m ps aX aQ f gw (kM l.length (l.take i)) F' wr) (fun v35 _=>l.length-(intOf v35).toNat)
 case atStart=>exact⟨0,F4,Nat.zero_le _,rfl,HB4.out⟩
 case round=>
  obtain⟨i,F',hi,rfl,hb⟩:=hrel;have zk:=ah hb;have hsrc:Src wr 1 A l.length (l.map Value.string):=Src.YO HA.out hb.k (fun h0 ad e=>(HAF.out h0 ad e).1);have hpr:=HP.out.kept hb.k HGF.out;have PL:=ah hsrc;have Af:=ah hpr;have YR:∀t∈kM l.length (l.take i),t.length<=65536:=by
   intro t ht;unfold kM at ht;rcases List.mem_cons.1 ht with rfl|ht
   ·rw[DW.out];simp;have:=GN.out;omega
   ·rw[List.mem_map]at ht;obtain⟨s,hs,rfl⟩:=ht;have:=HS.out s (List.mem_of_mem_take hs);simp[bP];omega
  have hTl:(kM l.length (l.take i)).length<=l.length+1:=by rw[uF,List.length_take];omega
  have TW:=ah YR;have Jt:=ah hTl;clear hb hsrc hpr YR hTl;by_cases hil:i<l.length
  ·obtain⟨s,hs⟩:∃s,l[i]? =some s:=⟨_,lB0 hil⟩;obtain⟨ad,rfl,-,e0⟩:=zu.LY PL.out (by omega) i s hs;have hs6:s.size<65536:=HS.out s (lC0 hs);have q1:¬9223372036854775807<(⟨#[84]⟩:ByteArray).size+s.size:=by show¬_<1+_;omega
   have hap:=Js zk.out afJ.out HF.out TW.out abS h1 (by have:=Jt.out;omega) (by have:=Jt.out;omega) (bI (84::bl s)) (by rw[nI];simp[bP];omega);have e1:kM l.length (l.take i)++[bl (bI (84::bl s))]=kM l.length (l.take (i+1)):=by rw[jq,aH.take_snoc hs,PK]
   rw[e1]at hap;have YQ:=ah hap;clear hs hs6 hap e1;go_wp2_with fail;rw[adA];refine YQ.out.mono ?_;rintro e w5 ⟨rfl,F5,hb5⟩;have jv:=ah hb5;clear hb5 q1;go_wp2_with fail;refine(KN _).mono ?_;rintro e w' ⟨rfl,rfl⟩;go_wp2;go_roundw
   case rel=>exact⟨i+1,F5,by omega,by go_num,jv.out⟩
   case measure=>simp[intOf];omega
  ·obtain rfl:i=l.length:=by omega
   rw[List.take_length]at zk TW Jt;have hfi:=TV HF.out TW.out h1 (by have:=Jt.out;omega) (by have:=Jt.out;omega);have ES:=hfi.total;have hsy:=Pg zk.out.d hfi.i64 (by have:=hfi.len;omega) (by have:=hfi.n;omega) 100000 hfi.file (by omega);have d1:wr.cell? ⟨gp,1,none⟩=some (.pointer (some ⟨g,0,none⟩)):=Af.out.cell 1;have HSY:=ah hsy;clear hfi ES hsy;go_wp2_with fail;refine HSY.out.mono ?_;rintro e w5 ⟨rfl,hd5,hk5⟩;have Vm:Kept F w w5:=zk.out.k.trans hk5 (fun k hk=>zk.out.grows k hk);have afL:=Src.YO HA.out Vm (fun h0 ad e=>(HAF.out h0 ad e).1);have afM:=HP.out.kept Vm HGF.out;have afN:=zk.out.be.kept hk5 (fun hf=>aZ.not zk.out.d zk.out.be (by decide) (by decide) hf);have afO:=zk.out.wl.kept hk5 (fun hf=>aZ.ne zk.out.d zk.out.wl hf);have afP:=ah Vm;have Ju:=ah afM;have Vo:=ah afN;have abT:=ah afO;have HD5:=ah hd5;have hcl:=clone_any w5 A c l afL (by omega);have oL:=ah hcl;clear Vm afL afM afN afO hcl hd5 hk5 d1;go_wp2_with fail;refine oL.out.mono ?_;rintro e w6 ⟨A6,c6,rfl,ET,hb6⟩;have Vp:Kept aj w5 w6:=Kept.of_below hb6 (fun k hk _=>hk);have zy:=Ju.out.kept Vp (fun z=>z);have Vq:=Vo.out.kept Vp (fun z=>z);have g0:=zy.frozen 0;have g2:=zy.frozen 2;have g3:=zy.frozen 3;have x0:w6.cell? ⟨gp,0,none⟩=some v0:=zy.cell 0;have x2:w6.cell? ⟨gp,2,none⟩=some (.int .i64 first):=zy.cell 2;have x3:w6.cell? ⟨gp,3,none⟩=some v3:=zy.cell 3;have y0:w6.cell? ⟨w.heap.size,0,none⟩=some (.int .i64 0):=Vq.cell 0;have z0:=Vq.frozen 0;have hne:gp≠w.heap.size:=by omega
   have Jv:=ah zy;have ahJ:=ah Vq;have kQ:=ah Vp;have yC:=ah ET;clear zy Vq Vp ET hb6;go_wp2_with fail;obtain⟨W7,Ag⟩:∃W7,(((w6.setCell ⟨gp,0,none⟩ (.pointer (some ⟨gw,0,none⟩))).setCell ⟨gp,2,none⟩ (.int .i64 f)).setCell ⟨gp,3,none⟩ (.slice A6 l.length c6)).setCell ⟨w.heap.size,0,none⟩ (.int .i64 0)=W7:=⟨_,rfl⟩;have vk:Kept (fun k=>k=gp\/k=w.heap.size) w6 W7:=by rw[<-Ag];exact((((Kept.refl _ w6).put (.inl (.inl rfl))).put (.inl (.inl rfl))).put (.inl (.inl rfl))).put (.inl (.inr rfl))
   have YS:ER W7 gp (.pointer (some ⟨gw,0,none⟩)) g f (.slice A6 l.length c6):=by rw[<-Ag];exact(((Jv.out.put 0 (.pointer (some ⟨gw,0,none⟩))).put 2 (.int .i64 f)).put 3 (.slice A6 l.length c6)).past hne
   have afQ:Has W7 w.heap.size 32 #[.int .i64 0]:=by rw[<-Ag];exact(((ahJ.out.past (fun e=>hne e.symm)).past (fun e=>hne e.symm)).past (fun e=>hne e.symm)).dH rfl
   rw[Ag];have u0:W7.cell? ⟨w.heap.size,0,none⟩=some (.int .i64 0):=afQ.cell 0;have hfin:R (.returned (.int .i64 0)) W7:=by
    rw[<-HR.out];have hkn:∀k,F' k->k≠gp/\k≠w.heap.size:=fun k hk=>⟨fun e=>aZ.not HD5.out Ju.out (by decide) (by decide) (e▸hk),fun e=>aZ.not HD5.out Vo.out (by decide) (by decide) (e▸hk)⟩;refine⟨rfl,F',gw,A6,c6,(HD5.out.kept kQ.out (fun _ _ z=>z)).kept vk (fun k hk h=>by rcases h with h|h;exact(hkn k hk).1 h;exact(hkn k hk).2 h),(abT.out.kept kQ.out (fun z=>z)).kept vk (fun h=> ?_),YS,⟨aC yC.out.1 vk (fun k hk h=> ?_),fun k hk=>Nat.le_trans afP.out.size (yC.out.2 k hk)⟩,abS,zk.out.grows,?_⟩
    ·rcases h with h|h
     ·exact Ju.out.ne abT.out (by decide) h.symm
     ·exact Vo.out.ne abT.out (by decide) h.symm
    ·have h8:=yC.out.2 k hk;have h9:=Ju.out.lt;have h10:=Vo.out.lt;rcases h with h|h<;>omega
    ·exact((afP.out.mono (fun k h=> .inl h)).then (kQ.out.mono (fun _ z=>z.elim))).trans vk (fun k h=>by rcases h with h|h;exact .inl (.inr h);exact .inr (by omega))
   have bU:=ah hfin;clear hfin vk YS afQ Ag;refine leaves_cons (f:=107) (args:=#[.pointer (some ⟨w.heap.size,0,none⟩)]) (by simp) (by simp[go_sem]) ?_;refine(YM _ _).mono ?_;rintro e u w8 ⟨rfl,rfl,rfl⟩;simp[Leaves,settle,results,Tryz.results53,go_sem,u0];exact bU.out

/- Part 22 of what the proof needs. -/
import Derived.Test.YtfjdpbbgfjhnlaaGreatMK20
set_option linter.unusedSimpArgs false
set_option linter.unusedVariables false
set_option maxHeartbeats 32000000
set_option maxRecDepth 100000
namespace Go.Proofs.YtfjdpbbgfjhnlaaGreat
open Go.RowKit
set_option maxRecDepth 100000
namespace Pt
open aH Fr Vn Ops Wl
def t1:List UInt8->List (List UInt8)
 |c::r=>if c=84 then [r]else []
 |[]=>[]
def tt(l:List (List UInt8)):List (List UInt8):=l.flatMap t1
theorem SL(l:List (List UInt8))(t:List UInt8):tt (l++[t])=tt l++t1 t:=by simp[tt]
theorem XX(l:List (List UInt8)):(tt l).length<=l.length:=by
 induction l with
 |nil=>exact Nat.le_refl _
 |cons t l ih=>
  show(t1 t++tt l).length<=_
  have:(t1 t).length<=1:=by
   cases t with
   |nil=>exact Nat.zero_le _
   |cons c r=>simp only[t1];split<;>simp
  rw[List.length_append,List.length_cons]
  omega
def Bj(d:Nat->List UInt8)(j:Nat):List (List UInt8):=tt ((dh (aV (d j))).drop (if j=0 then 1 else 0))
def iR(d:Nat->List UInt8):Nat->List (List UInt8)
 |0=>[]
 |j+1=>iR d j++Bj d j
theorem adA(d:Nat->List UInt8)(j:Nat)(h:(d j).length<=1000000):(Bj d j).length<=1000001:=by
 have h1:=XX ((dh (aV (d j))).drop (if j=0 then 1 else 0))
 have h2:=Fh (aV (d j))
 have h3:(aV (d j)).length<=(d j).length+1:=sH _ _ _
 unfold Bj
 rw[List.length_drop]at h1
 omega
theorem SN(d:Nat->List UInt8)(h:∀j,(d j).length<=1000000):∀k,(iR d k).length<=k*1000001
 |0=>Nat.zero_le _
 |k+1=>by
  have h1:=SN d h k
  have h2:=adA d k (h k)
  show(iR d k++Bj d k).length<=_
  rw[List.length_append,Nat.succ_mul]
  omega
theorem aa4{b:List UInt8}{c:Nat}(h:tY b=some c):0<(dh (aV b)).length:=by
 unfold tY at h
 rcases hR:nextR b 0 with e0|⟨t,to⟩
 ·rw[hR]at h;cases h
 ·have hto:=B6 hR
  unfold aV eY
  rw[if_neg (by omega),hR]
  show 0<(t::dh _).length
  simp
theorem KW(s:ByteArray):(s.toList !=[])=decide (0<s.size):=by
 rw[ByteArray.toList_eq,<-bJ]
 cases h:bl s<;>simp[h]
theorem OI{s:ByteArray}(h:s.size=0):t1 (bl s)=[]:=by
 have:bl s=[]:=List.eq_nil_of_length_eq_zero (by rw[bJ];exact h)
 rw[this];rfl
theorem SQ(s:ByteArray)(h:0<s.size):bl s=s[0]::bl (s.extract 1 s.size):=by
 have h1:bl (s.extract 1 s.size)=(bl s).drop 1:=by
  show(s.extract 1 s.size).data.toList=_
  rw[Lib.extract_data]
  simp only[bl]
  rw[List.take_of_length_le (by rw[List.length_drop,Array.length_toList];exact Nat.le_refl _)]
 rw[h1]
 have h2:0<(bl s).length:=by rw[bJ];exact h
 have h3:(bl s).drop 0=(bl s)[0]::(bl s).drop 1:=List.drop_eq_getElem_cons h2
 rw[List.drop_zero]at h3
 exact h3
theorem XY{s:ByteArray}(h:0<s.size)(h84:s[0]=84):t1 (bl s)=[bl (s.extract 1 s.size)]:=by
 rw[SQ s h,h84];rfl
theorem SS{s:ByteArray}(h:0<s.size)(h84:s[0]≠84):t1 (bl s)=[]:=by
 rw[SQ s h];simp only[t1];rw[if_neg h84]
theorem OJ{w:World}{A:Option Addr}{k:Nat}{l:List (List UInt8)}(h:Src w 1 A k (bZ l))(hm:0<k)(i:Nat)(p:List UInt8)(hp:l[i]? =some p):
  ∃ad:Addr,A=some ad/\ad.block<w.heap.size/\w.cell? (ad.add i)=some (.string (bG p)):=by
 obtain⟨ad,e,hb,hc⟩:=h.2 hm
 exact⟨ad,e,hb,hc i _ (by unfold bZ;rw[List.getElem?_map,hp];rfl)⟩
def jM(a l:List (List UInt8))(i:Nat):List (List UInt8):=a++tt (l.take i)
theorem oh(a l:List (List UInt8)):jM a l 0=a:=by simp[jM,tt]
theorem aa5(a l:List (List UInt8)):jM a l l.length=a++tt l:=by simp[jM]
theorem OL{a l:List (List UInt8)}{i:Nat}{p r:List UInt8}(hp:l[i]? =some p)(h:t1 p=[r]):jM a l (i+1)=jM a l i++[r]:=by
 unfold jM
 rw[aH.take_snoc hp,SL,h,List.append_assoc]
theorem zF{a l:List (List UInt8)}{i:Nat}{p:List UInt8}(hp:l[i]? =some p)(h:t1 p=[]):jM a l (i+1)=jM a l i:=by
 unfold jM
 rw[aH.take_snoc hp,SL,h,List.append_nil]
theorem GV(a l:List (List UInt8))(i:Nat):(jM a l i).length<=a.length+l.length:=by
 have h1:=XX (l.take i)
 have h2:=List.length_take_le i l
 have h3:(l.take i).length<=l.length:=by rw[List.length_take];omega
 unfold jM
 rw[List.length_append]
 omega
theorem Rh(l:List (List UInt8))(t:List UInt8):bZ (l++[t])=bZ l++[.string (bG t)]:=by simp[bZ]
theorem Be(x:ByteArray):∀u∈[Value.string x],u.oneCell'=true:=by
 intro u hu
 obtain rfl:u=.string x:=by simpa using hu
 rfl
theorem OM{w wr w9:World}{A' A9 AL:Option Addr}{c' c9 m1:Nat}{acc l:List (List UInt8)}{s:ByteArray}(hr:aF 9 1 w.heap.size wr A' acc.length c' (bZ acc))(hk:Kept aj w wr)(hs:Src wr 1 AL m1 (bZ l))
  (ho:w9.ownsRow 0 9 1 (.slice A9 (acc.length+1) c9) (acc.length+1) (bZ acc++[.string s])) (hg:(wr.alloc (.cells #[.string s] 9)).grownBy w9 (Value.slice A' acc.length c').ownBlock)
  (ha:(Value.slice A9 (acc.length+1) c9).ownBlock=(Value.slice A' acc.length c').ownBlock\/(Value.slice A9 (acc.length+1) c9).ownBlock=some (wr.alloc (.cells #[.string s] 9)).heap.size)
  (hb:∀ad:Addr,AL=some ad->(Value.slice A' acc.length c').ownBlock≠some ad.block) (hm:0<m1):
  aF 9 1 w.heap.size w9 A9 (acc.length+1) c9 (bZ (acc++[bl s]))/\Kept aj w w9/\Src w9 1 AL m1 (bZ l)/\∀ad:Addr,AL=some ad->(Value.slice A9 (acc.length+1) c9).ownBlock≠some ad.block:=by
 have hka:Kept (fun k=>(Value.slice A' acc.length c').ownBlock=some k) wr w9:=Kept.grown ((Kept.refl _ wr).alloc _) hg (fun k hk=> .inl hk)
 refine⟨⟨?_,fun k hk9=> ?_⟩,hk.trans hka (fun k hk=> .inr (hr.2 k hk)),hs.kept hka (fun ad e=>hb ad e),fun ad e h=> ?_⟩
 ·rw[Rh,yh];exact ho
 ·rcases ha with e|e
  ·exact hr.2 k (e.symm.trans hk9)
  ·have h9:=e.symm.trans hk9
   injection h9 with h9
   have:=hk.size
   simp at h9
   omega
 ·rcases ha with e2|e2
  ·exact hb ad e (e2.symm.trans h)
  ·obtain⟨KE,e3,hlt,_⟩:=hs.2 hm
   rw[e]at e3
   injection e3 with e3
   subst e3
   have h9:=e2.symm.trans h
   injection h9 with h9
   simp at h9
   omega
def XZ(w:World)(want:Nat)(L:List (List UInt8))(e:Ending)(w':World):Prop:=
 ∃A c,e=.returned (.tuple #[.slice A L.length c,.bool (decide (want<=L.length))])/\aF 9 1 w.heap.size w' A L.length c (bZ L)/\Kept aj w w'
section
variable{F:Nat->Prop}{w:World}{g n:Nat}{m:aH.Safe}{ps:List aH.Pc}{aU aK:Int}
theorem X8(h:aX w g F n m ps aU aK)(f:Int)(K want:Nat)(hpi:∀p∈ps,I64 p.1)(hn:n<=100000)(hlen:ps.length<=100000)(hsz:∀x,(dataOf m ps x).size<=1000000)(hsz2:∀x,(dN m x).size+total ps<=1000000000)(hf0:0<=f)(hfK:f+K<=1073841824)(hK:K<=100000)
  (h0:tY (bl (dataOf m ps f))=some want)
  (h1:∀j:Nat,j<K->bW m ps (f+1+j)=true/\tY (bl (dataOf m ps (f+1+j)))=none) (h2:bW m ps (f+1+K)=false\/∃c,tY (bl (dataOf m ps (f+1+K)))=some c):
  Calls Tryz.prog 75 #[.pointer (some ⟨g,0,none⟩),.int .i64 f] w (XZ w want (iR (fun j:Nat=>bl (dataOf m ps (f+j))) (K+1))):=by
 have hbe:=CU h f (fZ hf0 (by omega)) hlen (by have:=hsz f;omega) (by have:=hsz2 f;omega)
 have hen:=fun(W:World) (hW:Kept aj w W)=>Bi (h.kept hW (fun _ _ z=>z)) f K hpi hn hlen hsz2 hf0 (by omega) h1 h2
 have hda:=fun(x:Int) (hx:0<=x/\x<=2305843009213693952) (W:World) (hW:Kept aj w W)=>yO (h.kept hW (fun _ _ z=>z)) x (fZ hx.1 (by omega)) hlen (by have:=hsz2 x;omega)
 obtain⟨d,hd⟩:∃d:Nat->List UInt8,(fun j:Nat=>bl (dataOf m ps (f+j)))=d:=⟨_,rfl⟩
 have hdj:∀j:Nat,bl (dataOf m ps (f+j))=d j:=fun j=>by rw[<-hd]
 have hdl:∀j,(d j).length<=1000000:=fun j=>by rw[<-hdj j,bJ];exact hsz _
 have hd0:tY (d 0)=some want:=by rw[<-hdj 0];simpa using h0
 have hrl:=SN d hdl
 rw[h0]at hbe
 rw[hd]
 unfold JU at hbe
 have yN:=ah hbe;have HEN:=ah hen;have Gg:=ah hda;have HDJ:=ah hdj;have HDL:=ah hdl;have HD0:=ah hd0;have HRL:=ah hrl
 clear hbe hen hda hdj hdl hd0 hrl h0 h1 h2 h hpi hn hlen hsz hsz2 hd
 go_enter Tryz.func75,Tryz.ntmps75
 go_wp2_with fail
 refine yN.out.mono ?_
 rintro e w1 ⟨rfl,hk1⟩
 have fF:=ah hk1;clear hk1
 go_wp2_with fail
 go_loopw [8,9] (fun v8 v9 wr=>∃(j:Nat) (A:Option Addr) (c:Nat),j<=K+1/\v9=.int .i64 (f+j)/\v8=.slice A (iR d j).length c/\aF 9 1 w.heap.size wr A (iR d j).length c (bZ (iR d j))/\Kept aj w wr) (fun _ v9 _=>(f+K+1-intOf v9).toNat)
 case atStart=>exact⟨0,none,0,Nat.zero_le _,by simp,rfl,⟨⟨rfl,.inl ⟨rfl,rfl⟩⟩,fun k hk=>by cases hk⟩,fF.out⟩
 case round=>
  obtain⟨j,A,c,hj,rfl,rfl,hrow,hk⟩:=hrel
  obtain⟨x,hx⟩:∃x,f+(j:Int)=x:=⟨_,rfl⟩
  have hx1:0<=x:=by omega
  have hx2:x<=2305843009213693952:=by omega
  rw[hx]
  have HX:=ah hx;have bV:=ah hrow;have HK:=ah hk
  have hen:=HEN.out wr hk
  have HE:=ah hen
  clear hrow hk hen hx
  by_cases hjK:j<K+1
  ·have q1:x<f+1+(K:Int):=by have:=HX.out;omega
   have hdd:=Gg.out x ⟨hx1,hx2⟩
   obtain⟨D,hD⟩:∃D,dataOf m ps x=D:=⟨_,rfl⟩
   have hDj:bl D=d j:=by rw[<-hD,<-HX.out];exact HDJ.out j
   rw[hD]at hdd
   have hDs:D.size<=1000000:=by rw[<-bJ,hDj];exact HDL.out j
   have hal:=fun W=>Ot W D hDs
   have HDD:=ah hdd;have HAL:=ah hal;have aa6:=ah hDj
   clear hdd hal hD hDs hDj
   go_wp2_with fail
   refine HE.out.mono ?_
   rintro e w2 ⟨rfl,hk2⟩
   have aW:=ah (HK.out.then hk2)
   have UG:=ah (bV.out.kept hk2)
   clear hk2
   go_wp2_with fail
   refine(HDD.out _ aW.out).mono ?_
   rintro e w3 ⟨rfl,hk3⟩
   have bn:=ah (aW.out.then hk3)
   have qL:=ah (UG.out.kept hk3)
   clear hk3
   go_wp2_with fail
   refine(HAL.out _).mono ?_
   rintro e w4 ⟨A2,c2,rfl,hn2,hb2⟩
   have hk4:Kept aj w3 w4:=Kept.of_below hb2 (fun k hk _=>hk)
   have dW:=ah (bn.out.then hk4)
   have UH:=ah (qL.out.kept hk4)
   have hcap2:=fV hn2.1
   have hlen2:(dh (aV (bl D))).length<=1000001:=by
    have h1:=Fh (aV (bl D))
    have h2:(aV (bl D)).length<=(bl D).length+1:=sH _ _ _
    have h3:=HDL.out j
    rw[<-aa6.out]at h3
    omega
   obtain⟨l0,hl0⟩:∃l0,dh (aV (bl D))=l0:=⟨_,rfl⟩
   rw[hl0]at hn2 hcap2 hlen2⊢
   have HL0:=ah hl0
   have hend:∀i,i=(l0.drop (if j=0 then 1 else 0)).length->jM (iR d j) (l0.drop (if j=0 then 1 else 0)) i=iR d (j+1):=by
    rintro i rfl
    rw[aa5]
    show _=iR d j++Bj d j
    unfold Bj
    rw[<-aa6.out,HL0.out]
   have hrl:(iR d j).length<=100001000001:=by have:=HRL.out j;have h9:j*1000001<=100001*1000001:=Nat.mul_le_mul_right _ (by omega);omega
   have jv:=ah hend
   have Sm:=ah hn2.2
   clear hl0 hend hk4 hb2
   by_cases hj0:j=0
   ·have hpos:0<l0.length:=by
     rw[<-HL0.out,aa6.out,hj0]
     exact aa4 HD0.out
    obtain⟨nl,hnl⟩:∃nl,l0.length=nl+1:=⟨l0.length-1,by omega⟩
    have hsr:=Src.bC hn2.1
    obtain⟨ad,rfl,_,_⟩:=hsr.2 hpos
    have hsd:=hsr.drop (k:=1) hpos hcap2.1
    rw[hnl]at hsr hcap2 hsd hlen2⊢
    have KX:x=f:=by have:=HX.out;omega
    have qe:(x==f)=true:=by simpa using KX
    have hdl:(l0.drop (if j=0 then 1 else 0)).length=nl:=by rw[if_pos hj0,List.length_drop,hnl];omega
    have e1:(bZ l0).drop (1*1)=bZ (l0.drop (if j=0 then 1 else 0)):=by rw[if_pos hj0];unfold bZ;rw[List.map_drop]
    rw[e1]at hsd
    have hcc:(nl:Int)+1<=c2:=by omega
    have hc1:(1:Int)<=c2:=by omega
    have UI:=ah hdl;have Ew:=ah hsd;have HXF:=ah KX
    clear hsr hsd e1 hdl hn2 hnl KX hpos hj0
    by_cases aeP:c2=1
    ·subst aeP
     obtain rfl:nl=0:=by omega
     rw[if_pos rfl]at Ew
     obtain⟨l,hl⟩:∃l,l0.drop (if j=0 then 1 else 0)=l:=⟨_,rfl⟩
     rw[hl]at UI Ew jv
     have lM:=ah UI.out
     have IL:Hid (∀qV:Addr,(some ad)=some qV->(Value.slice A (iR d j).length c).ownBlock≠some qV.block):=ah (by
      intro qV e h
      have h1:=lH qL.out.1 h
      have h2:=Sm.out qV.block (by injection e with e;subst e;rfl)
      omega)
     clear hl
     go_wp2_with fail
     go_loopw [8,14,44] (fun v8 _ v44 wr=>∃(i:Nat) (A':Option Addr) (c':Nat),i<=0/\v44=.int .i64 i/\v8=.slice A' (jM (iR d j) l i).length c'/\aF 9 1 w.heap.size wr A' (jM (iR d j) l i).length c' (bZ (jM (iR d j) l i))/\Kept aj w wr/\Src wr 1 (some ad) 0 (bZ l)/\∀qV:Addr,(some ad)=some qV->(Value.slice A' (jM (iR d j) l i).length c').ownBlock≠some qV.block) (fun _ _ v44 _=>0-(intOf v44).toNat)
     case atStart=>exact⟨0,A,c,Nat.zero_le _,rfl,by rw[oh],by rw[oh];exact UH.out,dW.out,Ew.out,by rw[oh];exact IL.out⟩
     case round=>
      obtain⟨i,A',c',hi,rfl,rfl,hr,hk,hsw,hsn⟩:=hrel
      have hal:=GV (iR d j) l i
      rw[lM.out]at hal
      by_cases hil:i<0
      ·omega
      ·have hie:=jv.out i (by rw[lM.out];omega)
       rw[hie]at hr
       have Ya:=ah hie;have HR:=ah hr;have cO:=ah hk
       clear hr hk hie hal hsw hsn
       go_wp2
       go_roundw
       case rel=>exact⟨j+1,A',c',by omega,by have:=HX.out;congr 1;omega,by rw[Ya.out],HR.out,cO.out⟩
       case measure=>have:=HX.out;simp[intOf];omega
    ·rw[if_neg aeP]at Ew
     obtain⟨l,hl⟩:∃l,l0.drop (if j=0 then 1 else 0)=l:=⟨_,rfl⟩
     rw[hl]at UI Ew jv
     have hsd2:Src w4 1 (some ⟨ad.block,ad.off+1,none⟩) nl (bZ l):=by
      have h9:=Ew.out
      rw[Option.map_some,add_lit ad (by decide)]at h9
      exact h9
     clear Ew
     have Ew:=ah hsd2
     have lM:=ah UI.out
     have IL:Hid (∀qV:Addr,(some ⟨ad.block,ad.off+1,none⟩)=some qV->(Value.slice A (iR d j).length c).ownBlock≠some qV.block):=ah (by
      intro qV e h
      have h1:=lH qL.out.1 h
      have h2:=Sm.out qV.block (by injection e with e;subst e;rfl)
      omega)
     clear hl hsd2
     go_wp2_with fail
     go_loopw [8,14,44] (fun v8 _ v44 wr=>∃(i:Nat) (A':Option Addr) (c':Nat),i<=nl/\v44=.int .i64 i/\v8=.slice A' (jM (iR d j) l i).length c'/\aF 9 1 w.heap.size wr A' (jM (iR d j) l i).length c' (bZ (jM (iR d j) l i))/\Kept aj w wr/\Src wr 1 (some ⟨ad.block,ad.off+1,none⟩) nl (bZ l)/\∀qV:Addr,(some ⟨ad.block,ad.off+1,none⟩)=some qV->(Value.slice A' (jM (iR d j) l i).length c').ownBlock≠some qV.block) (fun _ _ v44 _=>nl-(intOf v44).toNat)
     case atStart=>exact⟨0,A,c,Nat.zero_le _,rfl,by rw[oh],by rw[oh];exact UH.out,dW.out,Ew.out,by rw[oh];exact IL.out⟩
     case round=>
      obtain⟨i,A',c',hi,rfl,rfl,hr,hk,hsw,hsn⟩:=hrel
      have hal:=GV (iR d j) l i
      rw[lM.out]at hal
      by_cases hil:i<nl
      ·obtain⟨p,hp⟩:∃p,l[i]? =some p:=⟨_,List.getElem?_eq_getElem (by rw[lM.out];exact hil)⟩
       obtain⟨ad',e,had,e0⟩:=OJ hsw (by omega) i p hp
       obtain rfl:ad'=⟨ad.block,ad.off+1,none⟩:=by injection e with e;exact e.symm
       obtain⟨s,hs⟩:∃s,bG p=s:=⟨_,rfl⟩
       have hbs:p=bl s:=by rw[<-hs,jd]
       rw[hs]at e0
       have e0':wr.cell? ⟨ad.block,ad.off+1+i,none⟩=some (.string s):=by rw[<-e0];congr 1;unfold Addr.add;split<;>simp_all
       have he:=rD s
       have he2:=KW s
       have HR:=ah hr;have cO:=ah hk;have IP:=ah hsw;have vk:=ah hsn
       rw[hbs]at hp
       have HP:=ah hp
       clear hr hk hs hbs hp had hsw hsn
       by_cases hz:s.size=0
       ·rw[decide_eq_true hz]at he
        rw[decide_eq_false (by omega)]at he2
        have hm:=zF (a:=iR d j) HP.out (OI hz)
        have HM:=ah hm
        clear hm hz
        go_wp2
        go_roundw
        case rel=>exact⟨i+1,A',c',by omega,by go_num,by rw[HM.out],by rw[HM.out];exact HR.out,cO.out,IP.out,by rw[HM.out];exact vk.out⟩
        case measure=>simp[intOf];omega
       ·rw[decide_eq_false hz]at he
        rw[decide_eq_true (by omega)]at he2
        have hpos:0<s.size:=by omega
        have hlt:s[0].toNat<256:=UInt8.toNat_lt _
        by_cases h84:s[0]=84
        ·have hq:((s[0].toNat:Int)==84)=true:=by rw[h84];rfl
         have hh:=OL (a:=iR d j) HP.out (XY hpos h84)
         have hone:(1:Int)<=s.size:=by omega
         have HH:=ah hh
         have hM:(jM (iR d j) l i).length+1<=maxLen:=by unfold maxLen;omega
         have hY:((jM (iR d j) l i).length+1)*16<=140737488355328:=by omega
         have Ou:=ah hM;have HY:=ah hY
         have HOW:=ah (aC HR.out.1 (F:=aj) ((Kept.refl _ wr).alloc (.cells #[.string (s.extract 1 s.size)] 9)) (fun _ _ z=>z))
         clear hh h84 hM hY hal
         go_wp2_with (at_builtin;refine aN xZ (.tmp 55) (.tmp 58) rfl rfl (Value.slice A' (jM (iR d j) l i).length c') rfl HOW.out 1 rfl (Src.dn (m:=1) (Has.new wr 9 #[.string (s.extract 1 s.size)]) rfl) (Be _) Ou.out HY.out ?_;intro A9 c9 w9 zG zH zI;have vw:=ah zG;have Yb:=ah zH;have KY:=ah zI;clear zG zH zI)
         obtain⟨f1,f2,f3,f4⟩:=OM HR.out cO.out IP.out vw.out Yb.out KY.out vk.out (by omega)
         have XJ:=ah f1;have HF2:=ah f2;have HF3:=ah f3;have HF4:=ah f4
         clear f1 f2 f3 f4
         go_roundw
         case rel=>exact⟨i+1,A9,c9,by omega,by go_num,by rw[HH.out,List.length_append];rfl,by rw[HH.out,List.length_append];exact XJ.out,HF2.out,HF3.out,by rw[HH.out,List.length_append];exact HF4.out⟩
         case measure=>simp[intOf];omega
        ·have aa7:s[0].toNat≠84:=fun h=>h84 (UInt8.toNat_inj.1 (by rw[h];rfl))
         have hq:((s[0].toNat:Int)==84)=false:=by simp;omega
         have hm:=zF (a:=iR d j) HP.out (SS hpos h84)
         have HM:=ah hm
         clear hm h84 aa7
         go_wp2
         go_roundw
         case rel=>exact⟨i+1,A',c',by omega,by go_num,by rw[HM.out],by rw[HM.out];exact HR.out,cO.out,IP.out,by rw[HM.out];exact vk.out⟩
         case measure=>simp[intOf];omega
      ·have hie:=jv.out i (by rw[lM.out];omega)
       rw[hie]at hr
       have Ya:=ah hie;have HR:=ah hr;have cO:=ah hk
       clear hr hk hie hal hsw hsn
       go_wp2
       go_roundw
       case rel=>exact⟨j+1,A',c',by omega,by have:=HX.out;congr 1;omega,by rw[Ya.out],HR.out,cO.out⟩
       case measure=>have:=HX.out;simp[intOf];omega
   ·have KX:x≠f:=by have:=HX.out;omega
    have qe:(x==f)=false:=by simpa using KX
    obtain⟨l,hl⟩:∃l,l0.drop (if j=0 then 1 else 0)=l:=⟨_,rfl⟩
    have aa8:l=l0:=by rw[<-hl,if_neg hj0,List.drop_zero]
    rw[hl]at jv
    have hsd:=Src.bC hn2.1
    rw[<-aa8]at hsd
    have hlen3:l.length=l0.length:=by rw[aa8]
    have Ew:Hid (Src w4 1 A2 l0.length (bZ l)):=ah (by rw[<-hlen3];exact hsd)
    have lM:=ah hlen3
    have IL:Hid (∀qV:Addr,A2=some qV->(Value.slice A (iR d j).length c).ownBlock≠some qV.block):=ah (by
     intro qV e h
     have h1:=lH qL.out.1 h
     have h2:=Sm.out qV.block (by rw[e];rfl)
     omega)
    clear hl aa8 hsd hlen3 hn2 KX hj0
    go_wp2_with fail
    go_loopw [8,14,44] (fun v8 _ v44 wr=>∃(i:Nat) (A':Option Addr) (c':Nat),i<=l0.length/\v44=.int .i64 i/\v8=.slice A' (jM (iR d j) l i).length c'/\aF 9 1 w.heap.size wr A' (jM (iR d j) l i).length c' (bZ (jM (iR d j) l i))/\Kept aj w wr/\Src wr 1 A2 l0.length (bZ l)/\∀qV:Addr,A2=some qV->(Value.slice A' (jM (iR d j) l i).length c').ownBlock≠some qV.block) (fun _ _ v44 _=>l0.length-(intOf v44).toNat)
    case atStart=>exact⟨0,A,c,Nat.zero_le _,rfl,by rw[oh],by rw[oh];exact UH.out,dW.out,Ew.out,by rw[oh];exact IL.out⟩
    case round=>
     obtain⟨i,A',c',hi,rfl,rfl,hr,hk,hsw,hsn⟩:=hrel
     have hal:=GV (iR d j) l i
     rw[lM.out]at hal
     by_cases hil:i<l0.length
     ·obtain⟨p,hp⟩:∃p,l[i]? =some p:=⟨_,List.getElem?_eq_getElem (by rw[lM.out];exact hil)⟩
      obtain⟨ad',e,had,e0⟩:=OJ hsw (by omega) i p hp
      obtain rfl:=e
      obtain⟨s,hs⟩:∃s,bG p=s:=⟨_,rfl⟩
      have hbs:p=bl s:=by rw[<-hs,jd]
      rw[hs]at e0
      skip
      have he:=rD s
      have he2:=KW s
      have HR:=ah hr;have cO:=ah hk;have IP:=ah hsw;have vk:=ah hsn
      rw[hbs]at hp
      have HP:=ah hp
      clear hr hk hs hbs hp had hsw hsn
      by_cases hz:s.size=0
      ·rw[decide_eq_true hz]at he
       rw[decide_eq_false (by omega)]at he2
       have hm:=zF (a:=iR d j) HP.out (OI hz)
       have HM:=ah hm
       clear hm hz
       go_wp2
       go_roundw
       case rel=>exact⟨i+1,A',c',by omega,by go_num,by rw[HM.out],by rw[HM.out];exact HR.out,cO.out,IP.out,by rw[HM.out];exact vk.out⟩
       case measure=>simp[intOf];omega
      ·rw[decide_eq_false hz]at he
       rw[decide_eq_true (by omega)]at he2
       have hpos:0<s.size:=by omega
       have hlt:s[0].toNat<256:=UInt8.toNat_lt _
       by_cases h84:s[0]=84
       ·have hq:((s[0].toNat:Int)==84)=true:=by rw[h84];rfl
        have hh:=OL (a:=iR d j) HP.out (XY hpos h84)
        have hone:(1:Int)<=s.size:=by omega
        have HH:=ah hh
        have hM:(jM (iR d j) l i).length+1<=maxLen:=by unfold maxLen;omega
        have hY:((jM (iR d j) l i).length+1)*16<=140737488355328:=by omega
        have Ou:=ah hM;have HY:=ah hY
        have HOW:=ah (aC HR.out.1 (F:=aj) ((Kept.refl _ wr).alloc (.cells #[.string (s.extract 1 s.size)] 9)) (fun _ _ z=>z))
        clear hh h84 hM hY hal
        go_wp2_with (at_builtin;refine aN xZ (.tmp 55) (.tmp 58) rfl rfl (Value.slice A' (jM (iR d j) l i).length c') rfl HOW.out 1 rfl (Src.dn (m:=1) (Has.new wr 9 #[.string (s.extract 1 s.size)]) rfl) (Be _) Ou.out HY.out ?_;intro A9 c9 w9 zG zH zI;have vw:=ah zG;have Yb:=ah zH;have KY:=ah zI;clear zG zH zI)
        obtain⟨f1,f2,f3,f4⟩:=OM HR.out cO.out IP.out vw.out Yb.out KY.out vk.out (by omega)
        have XJ:=ah f1;have HF2:=ah f2;have HF3:=ah f3;have HF4:=ah f4
        clear f1 f2 f3 f4
        go_roundw
        case rel=>exact⟨i+1,A9,c9,by omega,by go_num,by rw[HH.out,List.length_append];rfl,by rw[HH.out,List.length_append];exact XJ.out,HF2.out,HF3.out,by rw[HH.out,List.length_append];exact HF4.out⟩
        case measure=>simp[intOf];omega
       ·have aa7:s[0].toNat≠84:=fun h=>h84 (UInt8.toNat_inj.1 (by rw[h];rfl))
        have hq:((s[0].toNat:Int)==84)=false:=by simp;omega
        have hm:=zF (a:=iR d j) HP.out (SS hpos h84)
        have HM:=ah hm
        clear hm h84 aa7
        go_wp2
        go_roundw
        case rel=>exact⟨i+1,A',c',by omega,by go_num,by rw[HM.out],by rw[HM.out];exact HR.out,cO.out,IP.out,by rw[HM.out];exact vk.out⟩
        case measure=>simp[intOf];omega
     ·have hie:=jv.out i (by rw[lM.out];omega)
      rw[hie]at hr
      have Ya:=ah hie;have HR:=ah hr;have cO:=ah hk
      clear hr hk hie hal hsw hsn
      go_wp2
      go_roundw
      case rel=>exact⟨j+1,A',c',by omega,by have:=HX.out;congr 1;omega,by rw[Ya.out],HR.out,cO.out⟩
      case measure=>have:=HX.out;simp[intOf];omega
  ·have q1:¬x<f+1+(K:Int):=by have:=HX.out;omega
   obtain rfl:j=K+1:=by omega
   go_wp2_with fail
   refine HE.out.mono ?_
   rintro e w2 ⟨rfl,hk2⟩
   go_wp2
   go_ret2
   exact⟨A,c,rfl,bV.out.kept hk2,HK.out.then hk2⟩
end
end Pt
namespace Pt
open aH Fr Vn Ops Wl
theorem JW(w:World):Calls Tryz.prog 114 #[.int .i64 0] w fun e w'=>e=.returned (.tuple #[])/\w=w':=by
 go_enter Tryz.func114,Tryz.ntmps114
 go_wp2
 go_end0
 exact⟨rfl,rfl⟩
theorem vJ(w:World)(s:ByteArray)(b:Bool)(hb:decide ((65536:Int)<=(s.size:Int))=b):Calls Tryz.prog 124 #[.string s] w fun e w'=>e=.returned (.bool b)/\w=w':=by
 subst hb
 go_enter Tryz.func124,Tryz.ntmps124
 go_wp2
 go_ret
 exact⟨rfl,rfl⟩
theorem clone_any(w:World)(A:Option Addr)(c:Nat)(l:List ByteArray)(hl:Src w 1 A l.length (l.map Value.string))(hlen:l.length<=1000000000):
  Calls Tryz.prog 80 #[.slice A l.length c] w fun e w'=>∃A' c',e=.returned (.slice A' l.length c')/\aF 9 1 w.heap.size w' A' l.length c' (l.map Value.string)/\Below w.heap.size w w':=by
 have hnil:∀W n' c',(binOp .eql 94 (.slice A l.length c) (.slice none n' c')).run Tryz.prog W=.ok (.bool A.isNone) W:=fun W n' c'=>Lib.run_eql_slice_nil W _ _ A _ _ _ _ Tryz.underlying94
 cases A with
 |none=>
  obtain rfl:l=[]:=by
   rcases l with _|⟨a,l⟩
   ·rfl
   ·obtain⟨ad,h,_⟩:=hl.2 (by simp)
    cases h
  clear hl hlen
  have hnil0:∀W n' c',(binOp .eql 94 (.slice none 0 c) (.slice none n' c')).run Tryz.prog W=.ok (.bool true) W:=fun W n' c'=>Lib.run_eql_slice_nil W _ _ none _ _ _ _ Tryz.underlying94
  clear hnil
  go_enter Tryz.func80,Tryz.ntmps80
  go_wp2
  go_ret
  exact⟨none,0,rfl,⟨⟨rfl,.inl ⟨rfl,rfl⟩⟩,fun k hk=>by cases hk⟩,Below.refl _ _⟩
 |some ad=>
  simp only[Option.isNone_some]at hnil
  have hk1:Kept aj w (w.alloc (.cells #[] 9)):=(Kept.refl _ _).alloc _
  have hown:(w.alloc (.cells #[] 9)).ownsRow 0 9 1 (.slice (some ⟨w.heap.size,0,none⟩) 0 0) 0 []:=zh (Has.new w 9 #[]) rfl
  have HS:=ah (hl.kept hk1 (fun _ _ z=>z));have HO:=ah hown
  have hone:∀u∈l.map Value.string,u.oneCell'=true:=by
   intro u hu
   rw[List.mem_map]at hu
   obtain⟨x,_,rfl⟩:=hu
   rfl
  have vM:=ah hone
  have hM:0+l.length<=maxLen:=by unfold maxLen;omega
  have hY:(0+l.length)*16<=140737488355328:=by omega
  have HM:=ah hM;have HY:=ah hY
  clear hl hown hone hM hY hk1 hlen
  go_enter Tryz.func80,Tryz.ntmps80
  go_wp2_with (at_builtin;refine aN xZ (.tmp 5) (.tmp 6) rfl rfl (Value.slice (some ⟨w.heap.size,0,none⟩) 0 0) rfl HO.out c rfl HS.out vM.out HM.out HY.out ?_;intro A9 c9 w9 zG zH zI;have vw:=ah zG;have Yb:=ah zH;have KY:=ah zI;clear zG zH zI)
  go_ret
  have ho:=vw.out
  rw[Nat.zero_add,List.nil_append]at ho
  have ha:=KY.out
  rw[Nat.zero_add]at ha
  refine⟨A9,c9,rfl,⟨ho,fun k hk=> ?_⟩,?_⟩
  ·rcases ha with e|e
   ·have h9:=e.symm.trans hk
    simp[Value.ownBlock]at h9
    omega
   ·have h9:=e.symm.trans hk
    injection h9 with h9
    simp at h9
    omega
  ·exact(Kept.grown ((Kept.refl aj w).alloc _) Yb.out (fun k hk=>by simp[Value.ownBlock]at hk;exact .inr (by omega))).below (Nat.le_refl _) (fun _ z=>z.elim)
theorem JX(W:World):(Instr.typeAssert .nilIface 20 32 true).run Tryz.prog W=.ok (.tuple #[.int .i64 0,.bool false]) W:=by kernel_rfl
theorem Yc(w:World)(p:Option Addr):Calls Tryz.prog 113 #[.nilIface,.pointer p] w fun e w'=>e=.returned (.tuple #[])/\w'=w:=by
 have hta:=fun W=>JX W
 go_enter Tryz.func113,Tryz.ntmps113
 go_wp2
 go_end0
 exact⟨rfl,rfl⟩
theorem Yd(w:World)(y1:Nat):
  CallsD Tryz.prog 112 #[.pointer (some ⟨y1,0,none⟩)] .returning w fun e u w'=>e=.returned (.tuple #[])/\u=.returning/\w'=w:=by
 have hst:=Yc w (some ⟨y1,0,none⟩)
 refine callsD_of_wpS Tryz.func112 rfl fun c₀ cs hu=> ?_
 apply wpS_region
 simp[wpOpsS,go_sem,recoverD,hu,Tryz.ntmps112,Exit.thenS]
 refine hst.mono ?_
 rintro e w' ⟨rfl,rfl⟩
 refine⟨rfl,.returning,?_,_,results_none rfl _ _ _,rfl,rfl,rfl⟩
 cases c₀
 simp_all
end Pt
namespace Wl
open aH Fr Vn Ops
structure Low(first:Int)(m:aH.Safe)(ps:List aH.Pc):Prop where
 file:∀x,x<first->(dN m x).size=0
 pc:∀p∈ps,first<=p.1
theorem wT(first:Int):∀(R:St) (T:List (List UInt8)),(∀t∈T,t.length<=65536)->∀p∈jc first R T,p.2.size<=65549/\first<=p.1/\p.1<=first+(R.length+T.length:Nat)
 |R,[],_,p,hp=>by cases hp
 |R,t::T,hT,p,hp=>by
  rcases List.mem_cons.1 hp with rfl|hp
  ·refine⟨by rw[lQ];exact CG (hT t (by simp)),?_,?_⟩
   ·show first<=first+(lastOf R:Int);omega
   ·have:=Es R;show first+(lastOf R:Int)<=_;omega
  ·obtain⟨h1,h2,h3⟩:=wT first (app R t) T (fun x hx=>hT x (by simp[hx])) p hp
   have:=GU R t
   exact⟨h1,h2,by simp only[List.length_cons];omega⟩
section
variable{first:Int}{R:St}{T:List (List UInt8)}{m:aH.Safe}{ps:List aH.Pc}
theorem Low.pcs(h:Low first m ps)(hl:Log first R T m ps):ps=jc first R T:=by
 rw[<-hl.rest,List.filter_eq_self.2]
 intro p hp
 have:=h.pc p hp
 simpa [mine]using this
theorem Ye{R:St}(h:Ok R)(i:Nat):(lF R i).length<=66000:=by
 induction R with
 |nil=>exact Nat.zero_le _
 |cons f R ih=>
  simp only[lF]
  split
  ·exact(h f (by simp)).size
  ·exact ih (fun g hg=>h g (List.mem_cons_of_mem _ hg))
theorem Low.size(h:Low first m ps)(hl:Log first R T m ps)(f:Int):(dN m f).size<=66000:=by
 by_cases hf:f<first
 ·rw[h.file f hf];exact Nat.zero_le _
 ·have h2:=hl.safe (f-first).toNat
  rw[show first+((f-first).toNat:Int)=f by omega]at h2
  unfold dN
  rw[h2,Af,lQ]
  exact Ye hl.ok _
theorem Low.fits{n:Nat}(h:Low first m ps)(hl:Log first R T m ps)(h1:1<=first)(h2:first+(R.length+T.length:Nat)<=1073741824)(hn:n<=100000)(hT:T.length<100000):Fits n m ps:=by
 have hp:=h.pcs hl
 refine⟨hn,by rw[hp,wS];exact hT,fun f=>by have:=h.size hl f;omega,fun p hq=> ?_⟩
 rw[hp]at hq
 obtain⟨h3,h4,h5⟩:=wT first R T hl.T p hq
 exact⟨h3,by omega,by omega⟩
theorem Low.append(h:Low first m ps){f:Int}{s:ByteArray}(hf:first<=f):Low first m (ps++[(f,s)]):=
 ⟨h.file,fun p hp=>by
  rcases List.mem_append.1 hp with hp|hp
  ·exact h.pc p hp
  ·simp at hp;subst hp;exact hf⟩
end
end Wl
namespace Pt
open aH Fr Vn Ops Wl
def jT(k:Nat)(l:List ByteArray):List (List UInt8):=(80::put k)::l.map fun s=>84::bl s
theorem OO(k:Nat)(l:List ByteArray)(s:ByteArray):jT k (l++[s])=jT k l++[84::bl s]:=by simp[jT]
theorem tZ(k:Nat)(l:List ByteArray):(jT k l).length=l.length+1:=by simp[jT]
theorem aX.not{F:Nat->Prop}{w:World}{g n k:Nat}{m:aH.Safe}{ps:List aH.Pc}{aU aK:Int}{t:TypeId}{cs:Array Value}(h:aX w g F n m ps aU aK)(hh:Has w k t cs)(h1:t≠72)(h2:t≠93):¬F k:=by
 obtain⟨mb,A,c,hF,hg,hm,ho⟩:=h
 intro hf
 rcases(hF k).1 hf with rfl|rfl|hx
 ·exact hg.ne hh (fun e=>h1 e.symm) rfl
 ·exact hm.ne hh rfl
 ·exact own_ne ho hh (fun e=>h2 e.symm) hx
theorem Src.Yf{F:Nat->Prop}{w w':World}{size m:Nat}{A:Option Addr}{news:List Value}(h:Src w size A m news)(hk:Kept F w w')(hf:0<m->∀ad,A=some ad->¬F ad.block):Src w' size A m news:=by
 rcases Nat.eq_zero_or_pos m with rfl|h0
 ·have e:news=[]:=List.eq_nil_of_length_eq_zero (by have:=h.1;omega)
  rw[e]
  exact Src.nil _ _ _
 ·exact h.kept hk (hf h0)
theorem SV(a b:List UInt8):bG a++bG b=bG (a++b):=by
 apply ByteArray.ext
 simp[bG]
abbrev Ey(w:World)(gp:Nat)(v0:Value)(g:Nat)(first:Int)(v3:Value):Prop:=Has w gp 110 #[v0,.pointer (some ⟨g,0,none⟩),.int .i64 first,v3]
def KZ(w:World)(gp g:Nat)(F:Nat->Prop)(n:Nat)(m:aH.Safe)(ps:List aH.Pc)(aU aK f:Int)(l:List ByteArray)(e:Ending)(w':World):Prop:=
 e=.returned (.int .i64 0)/\∃F' gw A c,aX w' g F' (n+(ps++jc f [] (jT l.length l)).length) (lG m (ps++jc f [] (jT l.length l))) [] aU aK/\Dx w' gw g (f+lastOf (cur [] (jT l.length l)))/\Ey w' gp (.pointer (some ⟨gw,0,none⟩)) g f (.slice A l.length c)/\
  aF 9 1 w.heap.size w' A l.length c (l.map Value.string)/\w.heap.size<=gw/\ji w F F'/\Kept (fun k=>F k\/k=gp) w w'
section
variable{F:Nat->Prop}{w:World}{g gp n:Nat}{m:aH.Safe}{ps:List aH.Pc}{aU aK f first:Int}
theorem adB(T:List (List UInt8)):lastOf (cur [] T)<=T.length:=by
 have h1:=Es (cur [] T)
 have h2:=CO [] T
 simp at h2
 omega
structure Gi(w:World)(gp g be:Nat)(F:Nat->Prop)(n:Nat)(m:aH.Safe)(ps:List aH.Pc)(aU aK f:Int)(gw:Nat)(T:List (List UInt8))(F':Nat->Prop)(wr:World):Prop where
 d:aX wr g F' n m (ps++jc f [] T) aU aK
 wl:Dx wr gw g (f+lastOf (cur [] T))
 grows:ji w F F'
 k:Kept F w wr
 be:Has wr be 32 #[.int .i64 0]
theorem Gi.app{be gw:Nat}{T:List (List UInt8)}{F':Nat->Prop}{wr w3:World}(h:Gi w gp g be F n m ps aU aK f gw T F' wr)(hl:Log f [] T m (ps++jc f [] T))(hgw:w.heap.size<=gw){t:List UInt8}{F3:Nat->Prop}
  (hd:aX w3 g F3 n m (ps++jc f [] T++[(f+lastOf (cur [] T),bG (bI t))]) aU aK) (hg:ji wr F' F3) (hw:Dx w3 gw g (f+lastOf (cur [] (T++[t])))) (hk:Kept (fun k=>F' k\/k=gw) wr w3):Gi w gp g be F n m ps aU aK f gw (T++[t]) F3 w3:=by
 refine⟨?_,hw,h.grows.trans hg h.k.size,h.k.trans hk (fun k hk=> ?_),h.be.kept hk (fun hf=> ?_)⟩
 ·rw[CQ,<-List.append_assoc];exact hd
 ·rcases hk with hk|rfl
  ·exact h.grows k hk
  ·exact .inr hgw
 ·rcases hf with hf|rfl
  ·exact aX.not h.d h.be (by decide) (by decide) hf
  ·exact h.be.ne h.wl (by decide) rfl
theorem Gi.keep{be gw:Nat}{T:List (List UInt8)}{F':Nat->Prop}{wr w3:World}(h:Gi w gp g be F n m ps aU aK f gw T F' wr)(hk:Kept aj wr w3):Gi w gp g be F n m ps aU aK f gw T F' w3:=
 ⟨h.d.kept hk (fun _ _ z=>z),h.wl.kept hk (fun z=>z),h.grows,h.k.then (hk.mono (fun _ z=>z.elim)),h.be.kept hk (fun z=>z)⟩
theorem Yg{T:List (List UInt8)}(h:Log f [] [] m ps)(hT:∀t∈T,t.length<=65536):Log f [] T m (ps++jc f [] T):=by
 refine⟨h.safe,?_,h.ok,hT⟩
 have h1:(jc f [] T).filter (mine f)=jc f [] T:=List.filter_eq_self.2 (fun p hp=>by
  have:=wT f [] T hT p hp
  simpa [mine]using this.2.1)
 rw[List.filter_append,h1,h.rest]
 rfl
theorem SX{T:List (List UInt8)}(h:Fits n m ps)(hT:∀t∈T,t.length<=65536)(h1:1<=f)(h2:f+T.length<=1073741824)(h3:ps.length+T.length<100000):Fits n m (ps++jc f [] T):=by
 refine⟨h.n,by rw[List.length_append,wS];exact h3,h.file,fun p hp=> ?_⟩
 rcases List.mem_append.1 hp with hp|hp
 ·exact h.pc p hp
 ·obtain⟨h4,h5,h6⟩:=wT f [] T hT p hp
  simp at h6
  exact⟨h4,by omega,by omega⟩
theorem IQ{be gw:Nat}{T:List (List UInt8)}{F':Nat->Prop}{wr:World}(h:Gi w gp g be F n m ps aU aK f gw T F' wr)(hl:Log f [] [] m ps)(hf:Fits n m ps)(hT:∀t∈T,t.length<=65536)(hgw:w.heap.size<=gw)(h1:1<=f)(h2:f+T.length<=1073741824)(h3:ps.length+T.length<100000)(s:ByteArray)(hs:s.size<=65536):
  Calls Tryz.prog 115 #[.pointer (some ⟨gw,0,none⟩),.string s] wr fun e w'=>e=.returned (.int .i64 0)/\∃F3,Gi w gp g be F n m ps aU aK f gw (T++[bl s]) F3 w':=by
 have Ag:=Yg hl hT
 have hct:=adB T
 refine(Gh h.d h.wl Ag (SX hf hT h1 h2 h3) h1 (by omega) s hs).mono ?_
 rintro e w3 ⟨he,F3,hd,hg,hw,hk⟩
 exact⟨he,F3,h.app Ag hgw hd hg hw hk⟩
end
end Pt
end Go.Proofs.YtfjdpbbgfjhnlaaGreat

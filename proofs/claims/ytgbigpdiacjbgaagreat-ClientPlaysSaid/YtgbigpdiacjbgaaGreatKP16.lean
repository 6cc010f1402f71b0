/- Part 17. -/
import Derived.Test.YtgbigpdiacjbgaaGreatKP01
import Derived.Lib.EndianBits
set_option linter.unusedSimpArgs false
set_option linter.unusedVariables false
set_option maxHeartbeats 32000000
set_option maxRecDepth 100000
namespace Go.Proofs.YtgbigpdiacjbgaaGreat
open Go.RowKit
namespace Vn
open Ops (fE bl)
def Bj:Except Nat (Nat×Nat)->Value
 | .ok (n,j)=> .tuple #[.int .u64 n,.int .i64 j,.int .i64 0]
 | .error c=> .tuple #[.int .u64 0,.int .i64 0,.int .i64 c]
theorem zW(s:ByteArray)(i:Nat)(h:i<s.size):(bl s)[i]? =some s[i]:=by
 have h':i<s.data.toList.length:=by simpa using h
 show s.data.toList[i]? =_;rw[lB0 h'];rfl
theorem NP(s:ByteArray):get (bl s) s.size=.error 2:=by unfold get;rw[List.getElem?_eq_none (by rw[Ops.iw];exact Nat.le_refl _)]
theorem Jc(s:ByteArray)(i:Nat)(h:i<s.size)(hb:s[i].toNat<248):get (bl s) i=.ok (s[i].toNat,i+1):=by unfold get;rw[zW s i h];simp only[if_pos hb]
theorem Jd(s:ByteArray)(i:Nat)(h:i<s.size)(hb:¬s[i].toNat<248)(hk:s.size-(i+1)<s[i].toNat-247):get (bl s) i=.error 2:=by unfold get;rw[zW s i h];simp only[if_neg hb];rw[if_pos (by rw[List.length_take,List.length_drop,Ops.iw];omega)]
theorem KN(s:ByteArray)(i k:Nat)(h:i<s.size)(hb:¬s[i].toNat<248)(hk:s[i].toNat-247=k)(hl:k<=s.size-(i+1)):
  get (bl s) i=if val ((((bl s).drop (i+1)).take k).map UInt8.toNat)<248\/needs (val ((((bl s).drop (i+1)).take k).map UInt8.toNat))≠k then .error 4 else .ok (val ((((bl s).drop (i+1)).take k).map UInt8.toNat),i+1+k):=by
 unfold get;rw[zW s i h];simp only[if_neg hb,hk];rw[if_neg (by rw[List.length_take,List.length_drop,Ops.iw];omega)]
def numAt(s:ByteArray)(i j:Nat):Nat:=val ((((bl s).drop (i+1)).take j).map UInt8.toNat)
theorem GG(s:ByteArray)(i j:Nat)(h:i+1+j<s.size):numAt s i (j+1)=numAt s i j*256+s[i+1+j].toNat:=by unfold numAt;rw[List.take_add_one,List.getElem?_drop,zW s _ h,List.map_append];exact BZ _ _
theorem KO(s:ByteArray)(i j:Nat):numAt s i j<256^j:=by unfold numAt;refine Nat.lt_of_lt_of_le (Qo _ (zI _)) (Nat.pow_le_pow_right (by decide) ?_);rw[List.length_map,List.length_take];exact Nat.min_le_left _ _
theorem Je(s:ByteArray)(i j:Nat)(h:j<8):numAt s i j<72057594037927936:=by
 have h1:=KO s i j;have h2:(256:Nat)^j<=256^7:=Nat.pow_le_pow_right (by decide) (by omega);have e:(256:Nat)^7=72057594037927936:=by decide
 omega
theorem Jf(s:ByteArray)(i j:Nat)(h:j<=8):numAt s i j<18446744073709551616:=by
 have h1:=KO s i j;have h2:(256:Nat)^j<=256^8:=Nat.pow_le_pow_right (by decide) (by omega);have e:(256:Nat)^8=18446744073709551616:=by decide
 omega
theorem XL(m x:Nat)(hm:m<72057594037927936)(hx:x<256):bits .or .u64 ((m:Int)*256) (x:Int)=(m:Int)*256+x:=
 bits_join .u64 64 (by decide) wraps_u64 8 _ _ (by omega) (by omega) (by omega) (by omega) (by omega) (by omega)
theorem ext_get(s:ByteArray)(i j:Nat)(h:i+1+j<s.size)(h':j<(s.extract (i+1) s.size).size):(s.extract (i+1) s.size)[j]=s[i+1+j]:=by rw[ByteArray.getElem_extract]
theorem KP(s:ByteArray)(i:Nat)(hi:i<=s.size)(hs:s.size<=maxLen)(w:World):Calls Tryz.prog 135 #[.string s,.int .i64 i] w fun e w'=>e=.returned (Bj (get (bl s) i))/\w=w':=by
 unfold maxLen at hs;by_cases he:i=s.size
 ·subst he;rw[NP];go_enter Tryz.func135,Tryz.ntmps135;go_wp2;go_ret3;exact⟨rfl,rfl⟩
 have hil:i<s.size:=by omega
 have hne:((i:Int)==(s.size:Int))=false:=by rw[beq_eq_false_iff_ne];omega
 have h256:=UInt8.toNat_lt s[i];by_cases hb:s[i].toNat<248
 ·rw[Jc s i hil hb];have hb2:((s[i].toNat:Int)<248):=by omega
  clear he;go_enter Tryz.func135,Tryz.ntmps135;go_wp2;go_ret3;exact⟨rfl,rfl⟩
 have hb2:¬((s[i].toNat:Int)<248):=by omega
 obtain⟨k,hk⟩:∃k,s[i].toNat-247=k:=⟨_,rfl⟩;have hk8:k<=8:=by omega
 have hk1:1<=k:=by omega
 have hb3:(s[i].toNat:Int)-247=k:=by omega
 by_cases hsh:s.size-(i+1)<k
 ·rw[Jd s i hil hb (by omega)];obtain⟨x,hx⟩:∃x,s[i].toNat=x:=⟨_,rfl⟩;rw[hx]at h256 hb hb2 hk hb3;have hx2:(s[i].toNat:Int)=(x:Int):=by rw[hx]
  have HX:=ah hx;clear hx;clear he hk;obtain rfl:x=k+247:=by omega
  go_enter Tryz.func135,Tryz.ntmps135;go_wp2;go_ret3;exact⟨rfl,rfl⟩
 rw[KN s i k hil hb hk (by omega)];have hkl:k<=s.size-(i+1):=by omega
 have hnum:val ((((bl s).drop (i+1)).take k).map UInt8.toNat)=numAt s i k:=rfl;rw[hnum];obtain⟨G,hG⟩:∃G,(if numAt s i k<248\/needs (numAt s i k)≠k then Except.error 4 else Except.ok (numAt s i k,i+1+k):Except Nat (Nat×Nat))=G:=⟨_,rfl⟩;rw[hG];have Jg:=ah hG;clear hG;have hx2:(s[i].toNat:Int)=((k+247:Nat):Int):=by omega
 have hnn:¬s.size-(i+1)<k:=hsh;clear he hb hb2 hb3 hk h256 hnum;have qF:=ah hnn;clear hnn hsh;have q1:decide ((i:Int)<0)=false:=decide_eq_false (by omega);have q2:decide (s.size<i)=false:=decide_eq_false (by omega);have q3:decide ((k:Int)+247<248)=false:=decide_eq_false (by omega);go_enter Tryz.func135,Tryz.ntmps135;go_wp2;go_loop [9,50] (fun v9 v50=>∃j:Nat,j<=k/\v50=.int .i64 j/\v9=.int .u64 (numAt s i j)) (fun _ v50=>k-(intOf v50).toNat)
 case atStart=>exact⟨0,Nat.zero_le _,rfl,rfl⟩
 case round=>
  obtain⟨j,hj,rfl,rfl⟩:=hrel;by_cases hjk:j<k
  ·have h7:=Je s i j (by omega);obtain⟨m,hm⟩:∃m,numAt s i j=m:=⟨_,rfl⟩;have hxs:j<(s.extract (i+1) s.size).size:=by rw[ByteArray.size_extract];omega
   obtain⟨y,hy⟩:∃y,(s.extract (i+1) s.size)[j].toNat=y:=⟨_,rfl⟩;have WV:y<256:=by rw[<-hy];exact UInt8.toNat_lt _
   have hs:=GG s i j (by omega);rw[<-ext_get s i j (by omega) hxs,hy,hm]at hs;have HS:=ah hs;clear hs;rw[hm]at h7;rw[hm];have HM:=ah hm;clear hm;have hwr:IntKind.u64.wrap (y:Int)=y:=wraps_u64 _ (by omega) (by omega);have hor:=XL m y h7 WV;go_wp2;go_round
   case rel=>exact⟨j+1,by omega,by go_num,by rw[HS.out];go_num⟩
   case measure=>simp[intOf];omega
  ·obtain rfl:j=k:=by omega
   have h8:=Jf s i j (by omega);obtain⟨m,hm⟩:∃m,numAt s i j=m:=⟨_,rfl⟩;rw[hm]at h8;rw[hm];have HM:=ah hm;clear hm;by_cases hb:m<248
   ·have hb2:decide ((m:Int)<248)=true:=decide_eq_true (by omega);have HB:=ah hb;clear hb;go_wp2;go_ret3;exact⟨by rw[<-Jg.out,HM.out,if_pos (.inl HB.out)];rfl,rfl⟩
   ·have hb2:decide ((m:Int)<248)=false:=decide_eq_false (by omega);have hnd:=F4 m h8;obtain⟨r,hr⟩:∃r,needs m=r:=⟨_,rfl⟩;rw[hr]at hnd;have Jh:=ah hnd;clear hnd;by_cases WW:r=j
    ·subst WW;have HB:=ah hb;clear hb;have HR:=ah hr;clear hr;go_wp2_with fail;refine(Jh.out _).mono ?_;rintro e w2 ⟨rfl,rfl⟩;go_wp2;go_ret3;exact⟨by rw[<-Jg.out,HM.out,HR.out,if_neg (by have:=HB.out;simp;omega)];rfl,rfl⟩
    ·have hne:((r:Int) !=(j:Int))=true:=by simpa using fun e=>WW (by omega)
     have HRJ:=ah WW;clear WW;have HB:=ah hb;clear hb;have HR:=ah hr;clear hr;go_wp2_with fail;refine(Jh.out _).mono ?_;rintro e w2 ⟨rfl,rfl⟩;go_wp2;go_ret3;exact⟨by rw[<-Jg.out,HM.out,HR.out,if_pos (.inr HRJ.out)];rfl,rfl⟩
theorem U5(s:ByteArray)(i:Nat)(hi:i<=s.size)(hs:s.size<=maxLen)(w:World):Calls Tryz.prog 107 #[.string s,.int .i64 i] w fun e w'=>e=.returned (Bj (get (bl s) i))/\Kept aj w w':=by
 unfold maxLen at hs;by_cases he:i=s.size
 ·subst he;rw[NP];go_enter Tryz.func107,Tryz.ntmps107;go_wp2;go_ret3;exact⟨rfl,Kept.refl _ _⟩
 have hil:i<s.size:=by omega
 have hne:((i:Int)==(s.size:Int))=false:=by rw[beq_eq_false_iff_ne];omega
 have h256:=UInt8.toNat_lt s[i];by_cases hb:s[i].toNat<248
 ·rw[Jc s i hil hb];have hb2:((s[i].toNat:Int)-247<1):=by omega
  clear he;go_enter Tryz.func107,Tryz.ntmps107;go_wp2;go_ret3;exact⟨rfl,Kept.refl _ _⟩
 obtain⟨k,hk⟩:∃k,s[i].toNat-247=k:=⟨_,rfl⟩;have hk8:k<=8:=by omega
 have hk1:1<=k:=by omega
 have hx2:(s[i].toNat:Int)=((k+247:Nat):Int):=by omega
 have hx3:¬(k:Int)<1:=by omega
 have q1:decide ((i:Int)<0)=false:=decide_eq_false (by omega);have q2:decide (s.size<i)=false:=decide_eq_false (by omega);by_cases hsh:s.size-(i+1)<k
 ·rw[Jd s i hil hb (by omega)];have hsh2:(s.size:Int)-i-1<k:=by omega
  clear he hk hb;go_enter Tryz.func107,Tryz.ntmps107;go_wp2;go_ret3;exact⟨rfl,Kept.refl _ _⟩
 rw[KN s i k hil hb hk (by omega)];have hkl:k<=s.size-(i+1):=by omega
 have hnum:val ((((bl s).drop (i+1)).take k).map UInt8.toNat)=numAt s i k:=rfl;rw[hnum];obtain⟨G,hG⟩:∃G,(if numAt s i k<248\/needs (numAt s i k)≠k then Except.error 4 else Except.ok (numAt s i k,i+1+k):Except Nat (Nat×Nat))=G:=⟨_,rfl⟩;rw[hG];have Jg:=ah hG;clear hG;have hsh2:¬(s.size:Int)-i-1<k:=by omega
 clear he hb hk h256 hnum hsh;go_enter Tryz.func107,Tryz.ntmps107;go_wp2;go_loop [8,9] (fun v8 v9=>∃j:Nat,j<=k/\v9=.int .i64 (j+1)/\v8=.int .u64 (numAt s i j)) (fun _ v9=>k+1-(intOf v9).toNat)
 case atStart=>exact⟨0,Nat.zero_le _,rfl,rfl⟩
 case round=>
  obtain⟨j,hj,rfl,rfl⟩:=hrel;by_cases hjk:j<k
  ·have h7:=Je s i j (by omega);obtain⟨m,hm⟩:∃m,numAt s i j=m:=⟨_,rfl⟩;have hxs:i+(j+1)<s.size:=by omega
   obtain⟨y,hy⟩:∃y,s[i+(j+1)].toNat=y:=⟨_,rfl⟩;have WV:y<256:=by rw[<-hy];exact UInt8.toNat_lt _
   have hs:=GG s i j (by omega);have hya:s[i+1+j].toNat=y:=by rw[<-hy];congr 2;omega
   rw[hya,hm]at hs;have HS:=ah hs;clear hs hya;rw[hm]at h7;rw[hm];have HM:=ah hm;clear hm;have hwr:IntKind.u64.wrap (y:Int)=y:=wraps_u64 _ (by omega) (by omega);have htn:((i:Int)+(j+1)).toNat=i+(j+1):=by omega
   go_wp2;go_round
   case rel=>exact⟨j+1,by omega,by go_num,by rw[HS.out];go_num⟩
   case measure=>simp[intOf];omega
  ·obtain rfl:j=k:=by omega
   have h8:=Jf s i j (by omega);obtain⟨m,hm⟩:∃m,numAt s i j=m:=⟨_,rfl⟩;rw[hm]at h8;rw[hm];have HM:=ah hm;clear hm;have hp:=B6 m h8;have hpl:=B5 m;obtain⟨S,hS⟩:∃S,fE (put m)=S:=⟨_,rfl⟩;have hSz:S.size=(put m).length:=by rw[<-hS];simp[fE,ByteArray.size]
   rw[hS]at hp;have HP:=ah hp;clear hp hS;rw[hpl]at hSz;clear hpl;by_cases hbad:m<248\/needs m≠j
   ·have hne:((S.size:Int) !=(j:Int)+1)=true:=by
     have:(S.size:Int)≠(j:Int)+1:=by
      rw[hSz];split
      ·omega
      ·rcases hbad with h|h
       ·contradiction
       ·omega
     simpa using this
    have HB:=ah hbad;clear hbad hSz;go_wp2_with fail;refine(HP.out _).mono ?_;rintro e w2 ⟨rfl,hk⟩;have HK:=ah hk;clear hk;go_wp2;go_ret3;exact⟨by rw[<-Jg.out,HM.out,if_pos HB.out];rfl,HK.out⟩
   ·have hne:((S.size:Int) !=(j:Int)+1)=false:=by
     have:(S.size:Int)=(j:Int)+1:=by
      rw[hSz];split
      ·omega
      ·have:needs m=j:=Classical.byContradiction fun h=>hbad (.inr h);omega
     simpa using this
    have HB:=ah hbad;clear hbad hSz;go_wp2_with fail;refine(HP.out _).mono ?_;rintro e w2 ⟨rfl,hk⟩;have HK:=ah hk;clear hk;go_wp2;go_ret3;exact⟨by rw[<-Jg.out,HM.out,if_neg HB.out];simp[Bj,Array.getD];omega,HK.out⟩
end Vn
end Go.Proofs.YtgbigpdiacjbgaaGreat
namespace Go.Proofs.YtgbigpdiacjbgaaGreat
namespace Ops
open Vn
abbrev RS:=Nat×Int
def bD(s:ByteArray)(r:RS):Nat×RS:=
 if r.2≠0 then (0,r)else match Vn.get (bl s) r.1 with
  | .ok (n,j)=>(n,(j,0))
  | .error c=>(0,(r.1,(c:Int)))
def aG(s:ByteArray)(most:Nat)(r:RS):Nat×RS:=
 if(bD s r).2.2=0/\most<(bD s r).1 then (0,((bD s r).2.1,5))else bD s r
def aN(s:ByteArray)(most:Nat)(r:RS):ByteArray×RS:=
 if(bD s r).2.2≠0 then (emp,(bD s r).2)
 else if most<(bD s r).1 then (emp,((bD s r).2.1,3))
 else if s.size-(bD s r).2.1<(bD s r).1 then (emp,((bD s r).2.1,2))
 else(s.extract (bD s r).2.1 ((bD s r).2.1+(bD s r).1),((bD s r).2.1+(bD s r).1,0))
def fZ(s:ByteArray)(r:RS):Bool×RS:=
 if r.2≠0 then (false,r)else match(bl s)[r.1]? with
  |none=>(false,(r.1,2))
  |some b=>if 1<b.toNat then (false,(r.1,4))else(decide (b.toNat=1),(r.1+1,0))
def iJ(s:ByteArray)(r:RS):Int:=if r.2≠0 then r.2 else if r.1<s.size then 4 else 0
def E5(s:ByteArray)(r:RS):dU×RS:=
 let a:=aN s 8 r
 let d:=fZ s a.2
 let v:=aN s 8 d.2
 (⟨a.1,v.1,d.1⟩,v.2)
def jw(s:ByteArray):Nat->RS->List dU×RS
 |0,r=>([],r)
 |k+1,r=>((jw s k r).1++[(E5 s (jw s k r).2).1],(E5 s (jw s k r).2).2)
def zero:Batch:=⟨0,0,[]⟩
def pq(s:ByteArray):Batch×Int:=
 let c:=aG s 2 (0,0)
 let q:=aG s 1073741824 c.2
 let n:=aG s 4 q.2
 let l:=jw s n.1 n.2
 if iJ s l.2≠0 then (zero,iJ s l.2)else if chk ⟨c.1,q.1,l.1⟩≠0 then (zero,chk ⟨c.1,q.1,l.1⟩)else(⟨c.1,q.1,l.1⟩,0)
def Rest(s:ByteArray)(i:Nat)(l:List UInt8):Prop:=∃pre,bl s=pre++l/\pre.length=i
theorem Rest.step{s:ByteArray}{i:Nat}{x l:List UInt8}(h:Rest s i (x++l)):Rest s (i+x.length) l:=by obtain⟨pre,h1,h2⟩:=h;exact⟨pre++x,by rw[h1,List.append_assoc],by simp[h2]⟩
theorem Rest.le{s:ByteArray}{i:Nat}{l:List UInt8}(h:Rest s i l):i+l.length=s.size:=by obtain⟨pre,h1,h2⟩:=h;rw[<-iw,h1];simp[h2]
theorem Ib{s:ByteArray}{i n:Nat}{l:List UInt8}(h:Rest s i (put n++l))(hn:n<18446744073709551616):bD s (i,0)=(n,(i+(put n).length,0)):=by obtain⟨pre,h1,h2⟩:=h;have:=get_put pre l n hn;rw[List.append_assoc,<-h1,h2]at this;simp[bD,this]
theorem BM{s:ByteArray}{i n most:Nat}{l:List UInt8}(h:Rest s i (put n++l))(hn:n<=most)(hm:most<18446744073709551616):aG s most (i,0)=(n,(i+(put n).length,0)):=by unfold aG;rw[Ib h (by omega)];rw[if_neg (by simp;omega)]
theorem OW(s:ByteArray)(i j:Nat)(h:j<=s.size)(hij:i<=j):bl (s.extract i j)=((bl s).drop i).take (j-i):=by simp[bl]
theorem zX{s t:ByteArray}{i most:Nat}{l:List UInt8}(h:Rest s i (dA t++l))(ht:t.size<=most)(hm:most<18446744073709551616):aN s most (i,0)=(t,(i+(dA t).length,0)):=by
 have hlen:(dA t).length=(put t.size).length+t.size:=by unfold dA;rw[lA0,iw]
 have hle:=h.le;rw[lA0,hlen]at hle;have hR:Rest s i (put t.size++(bl t++l)):=by unfold dA at h;rwa[List.append_assoc]at h
 have hB:=Ib hR (by omega);obtain⟨pre,h1,h2⟩:=hR.step;unfold aN;rw[hB];simp only[ne_eq,not_true_eq_false,if_false];rw[if_neg (by omega),if_neg (by omega),hlen];have e:s.extract (i+(put t.size).length) (i+(put t.size).length+t.size)=t:=by apply yH;rw[OW s _ _ (by omega) (by omega),h1,<-h2,List.drop_left,Nat.add_sub_cancel_left,<-iw t,List.take_left]
 rw[e,Nat.add_assoc]
theorem U6{s:ByteArray}{i:Nat}{b:Bool}{l:List UInt8}(h:Rest s i (sW b++l)):fZ s (i,0)=(b,(i+(sW b).length,0)):=by
 obtain⟨pre,h1,h2⟩:=h;have e:(bl s)[i]? =some (if b then 1 else 0):=by rw[h1,List.getElem?_append_right (by omega),h2];simp[sW]
 unfold fZ;simp only[ne_eq,not_true_eq_false,if_false,e];cases b<;>simp[sW]
theorem Zb{s:ByteArray}{o:dU}{i:Nat}{l:List UInt8}(h:Rest s i (bn o++l))(hk:o.key.size<=8)(hv:o.val.size<=8):E5 s (i,0)=(o,(i+(bn o).length,0)):=by unfold bn at h;rw[List.append_assoc,List.append_assoc]at h;have h1:=zX h hk (by decide);have h2:=U6 h.step;have h3:=zX h.step.step hv (by decide);unfold E5;simp only[h1,h2,h3];simp[bn,Nat.add_assoc]
theorem XM{s:ByteArray}(ops:List dU)(i:Nat)(l:List UInt8)(h:Rest s i (ops.flatMap bn++l))(hok:∀o∈ops,o.key.size<=8/\o.val.size<=8):
  ∀k,k<=ops.length->jw s k (i,0)=(ops.take k,(i+((ops.take k).flatMap bn).length,0)):=by
 intro k;induction k with
 |zero=>intro _;simp[jw]
 |succ k ih=>
  intro hk;have hk':k<ops.length:=by omega
  have h1:=ih (by omega);have hR:Rest s i ((ops.take k).flatMap bn++(bn ops[k]++((ops.drop (k+1)).flatMap bn++l))):=by
   have e:ops.flatMap bn=(ops.take k).flatMap bn++(bn ops[k]++(ops.drop (k+1)).flatMap bn):=by
    conv=>lhs;rw[<-List.take_append_drop k ops]
    rw[List.flatMap_append,List.drop_eq_getElem_cons hk',List.flatMap_cons]
   rw[e]at h;simpa [List.append_assoc]using h
  have h2:=Zb hR.step (hok _ (List.getElem_mem hk')).1 (hok _ (List.getElem_mem hk')).2;rw[jw];simp only[h1,h2];rw[qW bn ops k hk',lA0,Nat.add_assoc,List.take_add_one,lB0 hk'];rfl
theorem U7(b:Batch)(h:chk b=0):pq (fE (vH b))=(b,0):=by
 obtain⟨h1,h2,h3,h4,h5,h6⟩:=sZ h;have hok:=EJ h6;have hR:Rest (fE (vH b)) 0 (put b.cl.toNat++(put b.req.toNat++(put b.ops.length++(b.ops.flatMap bn++[])))):=by refine⟨[],?_,rfl⟩;rw[lH,vH];simp[List.append_assoc]
 have g1:=BM (most:=2) hR (by omega) (by decide);have g2:=BM (most:=1073741824) hR.step (by omega) (by decide);have g3:=BM (most:=4) hR.step.step (by omega) (by decide);have g4:=XM b.ops _ [] hR.step.step.step (fun o ho=>⟨(hok o ho).2.1,(hok o ho).2.2.1⟩) b.ops.length (Nat.le_refl _);rw[List.take_length]at g4;have g5:=hR.step.step.step.step.le;have ec:((b.cl.toNat:Nat):Int)=b.cl:=Int.toNat_of_nonneg h1;have er:((b.req.toNat:Nat):Int)=b.req:=Int.toNat_of_nonneg (by omega);unfold pq;simp only[g1,g2,g3,g4,ec,er];have ge:iJ (fE (vH b)) (0+(put b.cl.toNat).length+(put b.req.toNat).length+(put b.ops.length).length+(b.ops.flatMap bn).length,0)=0:=by unfold iJ;rw[if_neg (by simp),if_neg (by simp at g5⊢;omega)]
 rw[ge,if_neg (by simp)];have gc:chk ⟨b.cl,b.req,b.ops⟩=0:=h;rw[gc,if_neg (by simp)]
theorem CB{s:ByteArray}{q:RS}(h:q.2≠0):bD s q=(0,q):=by unfold bD;rw[if_pos h]
theorem U8{s:ByteArray}{most:Nat}{q:RS}(h:q.2≠0):aG s most q=(0,q):=by unfold aG;rw[CB h,if_neg (fun x=>h x.1)]
theorem RE{s:ByteArray}{most:Nat}{q:RS}(h:q.2≠0):aN s most q=(emp,q):=by unfold aN;rw[CB h,if_pos h]
theorem Ji{s:ByteArray}{q:RS}(h:q.2≠0):fZ s q=(false,q):=by unfold fZ;rw[if_pos h]
theorem KQ(s:ByteArray)(r:RS):∀k,(jw s k r).1.length=k:=by
 intro k;induction k with
 |zero=>rfl
 |succ k ih=>rw[jw];simp[ih]
end Ops
end Go.Proofs.YtgbigpdiacjbgaaGreat
namespace Go.Proofs.YtgbigpdiacjbgaaGreat
open Go.RowKit
namespace iI
open Vn Ops
def iH(w:World)(g:Nat)(s:ByteArray)(r:RS):Prop:=Has w g 157 #[.string s,.int .i64 r.1,.int .i64 r.2,.bool true]/\r.1<=s.size
abbrev thrown(c:Int):Ending:=.panicked [{v:=.iface 33 (.int .i64 c),recovered:=false}]
theorem Zc(w:World):Calls Tryz.prog 136 #[.int .i64 0] w fun e w'=>e=.returned (.tuple #[])/\w=w':=by go_enter Tryz.func136,Tryz.ntmps136;go_wp2;go_end0;exact⟨rfl,rfl⟩
theorem RF(c:Int)(hc:c≠0)(w:World):Calls Tryz.prog 136 #[.int .i64 c] w fun e w'=>e=thrown c/\w=w':=by
 have h:(c !=0)=true:=by simpa using hc
 go_enter Tryz.func136,Tryz.ntmps136;go_wp2;exact⟨rfl,rfl,rfl⟩
theorem zY(c:Int)(w:World):Calls Tryz.prog 94 #[.bool false,.int .i64 c] w fun e w'=>e=.returned (.tuple #[])/\w=w':=by go_enter Tryz.func94,Tryz.ntmps94;go_wp2;go_end0;exact⟨rfl,rfl⟩
theorem zZ(c:Int)(hc:c≠0)(w:World):Calls Tryz.prog 94 #[.bool true,.int .i64 c] w fun e w'=>e=thrown c/\w=w':=by have h:=RF c hc;have H:=ah h;clear h;go_enter Tryz.func94,Tryz.ntmps94;go_wp2_with fail;refine(H.out _).mono ?_;rintro e w2 ⟨rfl,rfl⟩;go_wp2;exact⟨rfl,rfl,rfl⟩
theorem xX{v0 v1 v2:Value}(w:World)(g:Nat)(c3:w.cell? ⟨g,3,none⟩=some (.bool true)):
  Calls Tryz.prog 95 #[.pointer (some ⟨g,0,none⟩)] w fun e w'=>e=.returned (.bool false)/\w=w':=by
 go_enter Tryz.func95,Tryz.ntmps95;go_wp2;go_ret;exact⟨rfl,rfl⟩
theorem fU(w:World)(g:Nat)(s:ByteArray)(r:RS)(h:iH w g s r):Calls Tryz.prog 58 #[.pointer (some ⟨g,0,none⟩)] w fun e w'=>e=.returned (.int .i64 r.2)/\w=w':=by have c2:=h.1.cell 2;have c3:=h.1.cell 3;simp only[lF0,List.getElem?_cons_zero,List.getElem?_cons_succ]at c2 c3;clear h;go_enter Tryz.func58,Tryz.ntmps58;go_wp2;go_ret;exact⟨rfl,rfl⟩
theorem XN(c:Int)(W:World):(Instr.typeAssert (.iface 33 (.int .i64 c)) 20 33 true).run Tryz.prog W=.ok (.tuple #[.int .i64 c,.bool true]) W:=by kernel_rfl
theorem XO(W:World):(Instr.typeAssert .nilIface 20 33 true).run Tryz.prog W=.ok (.tuple #[.int .i64 0,.bool false]) W:=by kernel_rfl
theorem zq(w:World)(g:Nat)(s:ByteArray)(r:RS)(c:Int)(h:iH w g s r):Calls Tryz.prog 92 #[.pointer (some ⟨g,0,none⟩),.iface 33 (.int .i64 c)] w fun e w'=>e=.returned (.tuple #[])/\w'=w.setCell ⟨g,2,none⟩ (.int .i64 c):=by have c2:=h.1.cell 2;have f2:=h.1.frozen 2;simp only[lF0,List.getElem?_cons_zero,List.getElem?_cons_succ]at c2;clear h;have hta:=XN c;go_enter Tryz.func92,Tryz.ntmps92;go_wp2;go_end0;exact⟨rfl,rfl⟩
theorem zu(w:World)(g:Nat):Calls Tryz.prog 92 #[.pointer (some ⟨g,0,none⟩),.nilIface] w fun e w'=>e=.returned (.tuple #[])/\w'=w:=by have hta:=XO;go_enter Tryz.func92,Tryz.ntmps92;go_wp2;go_end0;exact⟨rfl,rfl⟩
end iI
theorem GH{P:Program}{Q:Exit->Act->List Frame->World->Prop}{a:Act}{cs:List Frame}{w:World}{id:Nat}{ops:Array Oper}
  (h:∀t,wpOpsS P ops Q (Region.schedule (P.follows .mixedOrders) ops t) a cs {w with drawn:=w.drawn+1}):(Code.region id ops true).wpS P Q a cs w:=
 fun b k hb hr=>let ⟨e,a',cs',w',q,r⟩:=wp_opsS _ a cs _ (h _) b k hb hr;⟨e,a',cs',w',q,.of_steps (.one step_region_draw) r⟩
def lin(md:Region.Mode)(ops:Array Oper):Nat->Nat->Array Bool->List Nat
 |0,_,_=>[]
 |n+1,t,l=>
  match(Region.ready md ops l)[t% (Region.ready md ops l).length]? with
  |some i=>i::lin md ops n (t/(Region.ready md ops l).length) (l.setIfInBounds i true)
  |none=>[]
theorem Zd(md:Region.Mode)(ops:Array Oper):∀(fuel t:Nat) (l:Array Bool),Region.linearise.go md ops fuel t l []=lin md ops fuel t l:=by
 intro fuel;induction fuel with
 |zero=>intro t l;simp[Region.linearise.go,lin]
 |succ fuel ih=>
  intro t l;simp only[Region.linearise.go]
  change (match(Region.ready md ops l)[t% (Region.ready md ops l).length]? with
   |some i=>Region.linearise.go md ops fuel (t/(Region.ready md ops l).length) (l.setIfInBounds i true) [i]
   |none=>[].reverse)=_
  unfold lin;cases(Region.ready md ops l)[t% (Region.ready md ops l).length]? with
  |none=>rfl
  |some i=>simp only;rw[linearise_go_acc,ih];rfl
theorem Ze{m:Bool}{ops:Array Oper}(hm:m=true)(hs:ops.size=3)(r0:Region.ready .any ops #[false,false,false]=[0,1])(r1:Region.ready .any ops #[true,false,false]=[1])(r2:Region.ready .any ops #[false,true,false]=[0])
  (r3:Region.ready .any ops #[true,true,false]=[2]) (t:Nat):Region.schedule m ops t=[0,1,2]\/Region.schedule m ops t=[1,0,2]:=by
 have e:Region.schedule m ops t=lin .any ops 3 t #[false,false,false]:=by subst hm;simp only[Region.schedule,Bool.true_or,if_true,Region.linearise];rw[hs];exact Zd _ _ _ _ _
 rw[e];unfold lin;rw[r0];rcases(show t%2=0\/t%2=1 by omega)with h|h
 ·left;have h':t% [0,1].length=0:=h;rw[h'];simp only[List.getElem?_cons_zero];have e1:(#[false,false,false]:Array Bool).setIfInBounds 0 true=#[true,false,false]:=rfl;rw[e1];unfold lin;rw[r1];have h1:∀x,x% [1].length=0:=fun x=>by simp[Nat.mod_one]
  rw[h1];simp only[List.getElem?_cons_zero];have e2:(#[true,false,false]:Array Bool).setIfInBounds 1 true=#[true,true,false]:=rfl;rw[e2];unfold lin;rw[r3];have h2:∀x,x% [2].length=0:=fun x=>by simp[Nat.mod_one]
  rw[h2];rfl
 ·right;have h':t% [0,1].length=1:=h;rw[h'];simp only[List.getElem?_cons_succ,List.getElem?_cons_zero];have e1:(#[false,false,false]:Array Bool).setIfInBounds 1 true=#[false,true,false]:=rfl;rw[e1];unfold lin;rw[r2];have h1:∀x,x% [0].length=0:=fun x=>by simp[Nat.mod_one]
  rw[h1];simp only[List.getElem?_cons_zero];have e2:(#[false,true,false]:Array Bool).setIfInBounds 0 true=#[true,true,false]:=rfl;rw[e2];unfold lin;rw[r3];have h2:∀x,x% [2].length=0:=fun x=>by simp[Nat.mod_one]
  rw[h2];rfl
theorem jX{P:Program}{Q:Exit->Act->List Frame->World->Prop}{a:Act}{cs:List Frame}{w:World}{id:Nat}{ops:Array Oper}
  (hm:P.follows .mixedOrders=true) (hs:ops.size=3) (r0:Region.ready .any ops #[false,false,false]=[0,1]) (r1:Region.ready .any ops #[true,false,false]=[1]) (r2:Region.ready .any ops #[false,true,false]=[0])
  (r3:Region.ready .any ops #[true,true,false]=[2]) (h1:wpOpsS P ops Q [0,1,2] a cs w.drew) (h2:wpOpsS P ops Q [1,0,2] a cs w.drew):(Code.region id ops true).wpS P Q a cs w:=by
 refine GH fun t=> ?_;rcases Ze (t:=t) hm hs r0 r1 r2 r3 with e|e
 ·rw[e];exact h1
 ·rw[e];exact h2
namespace iI
open Vn Ops
def Caught(w:World)(g:Nat)(c:Int)(older:List PanicEntry)(e:Ending)(u:FrameMode)(w':World):Prop:=
 e=.returned (.tuple #[])/\u=.panicking ({v:=.iface 33 (.int .i64 c),recovered:=true}::older)/\w'=w.drew.setCell ⟨g,2,none⟩ (.int .i64 c)
def Idle(w:World)(e:Ending)(u:FrameMode)(w':World):Prop:=e=.returned (.tuple #[])/\u=.returning/\w'=w.drew
theorem U9(w:World)(B g:Nat)(s:ByteArray)(r:RS)(c:Int)(older:List PanicEntry)(h:iH w g s r)(hB:w.cell? ⟨B,0,none⟩=some (.pointer (some ⟨g,0,none⟩))):
  CallsD Tryz.prog 142 #[.pointer (some ⟨B,0,none⟩)] (.panicking ({v:=.iface 33 (.int .i64 c),recovered:=false}::older)) w (Caught w g c older):=by
 have hst:=zq w.drew g s r c h;have hB2:w.drew.cell? ⟨B,0,none⟩=some (.pointer (some ⟨g,0,none⟩)):=hB;refine callsD_of_wpS Tryz.func142 rfl fun c₀ cs hu=> ?_;refine jX (by kernel_rfl) (by rfl) (by kernel_rfl) (by kernel_rfl) (by kernel_rfl) (by kernel_rfl) ?_ ?_
 all_goals
  simp[wpOpsS,go_sem,recoverD,hu,Tryz.ntmps142,Exit.thenS,hB2]
  refine hst.mono ?_
  rintro e w' ⟨rfl,rfl⟩
  exact⟨rfl,_,rfl,_,results_none rfl _ _ _,rfl,rfl,rfl⟩
theorem XP(w:World)(B g:Nat)(hB:w.cell? ⟨B,0,none⟩=some (.pointer (some ⟨g,0,none⟩))):
  CallsD Tryz.prog 142 #[.pointer (some ⟨B,0,none⟩)] .returning w (Idle w):=by
 have hst:=zu w.drew g;have hB2:w.drew.cell? ⟨B,0,none⟩=some (.pointer (some ⟨g,0,none⟩)):=hB;refine callsD_of_wpS Tryz.func142 rfl fun c₀ cs hu=> ?_;refine jX (by kernel_rfl) (by rfl) (by kernel_rfl) (by kernel_rfl) (by kernel_rfl) (by kernel_rfl) ?_ ?_
 all_goals
  simp[wpOpsS,go_sem,recoverD,hu,Tryz.ntmps142,Exit.thenS,hB2]
  refine hst.mono ?_
  rintro e w' ⟨rfl,rfl⟩
  refine⟨rfl,.returning,?_,_,results_none rfl _ _ _,rfl,rfl,rfl⟩
  cases c₀
  simp_all
theorem KR(w:World)(B g:Nat)(s:ByteArray)(r:RS)(c:Int)(older:List PanicEntry)(h:iH w g s r)(hB:w.cell? ⟨B,0,none⟩=some (.pointer (some ⟨g,0,none⟩))):
  CallsD Tryz.prog 91 #[.pointer (some ⟨B,0,none⟩)] (.panicking ({v:=.iface 33 (.int .i64 c),recovered:=false}::older)) w (Caught w g c older):=by
 have hst:=zq w.drew g s r c h;have hB2:w.drew.cell? ⟨B,0,none⟩=some (.pointer (some ⟨g,0,none⟩)):=hB;refine callsD_of_wpS Tryz.func91 rfl fun c₀ cs hu=> ?_;refine jX (by kernel_rfl) (by rfl) (by kernel_rfl) (by kernel_rfl) (by kernel_rfl) (by kernel_rfl) ?_ ?_
 all_goals
  simp[wpOpsS,go_sem,recoverD,hu,Tryz.ntmps91,Exit.thenS,hB2]
  refine hst.mono ?_
  rintro e w' ⟨rfl,rfl⟩
  exact⟨rfl,_,rfl,_,results_none rfl _ _ _,rfl,rfl,rfl⟩
theorem XQ(w:World)(B g:Nat)(hB:w.cell? ⟨B,0,none⟩=some (.pointer (some ⟨g,0,none⟩))):
  CallsD Tryz.prog 91 #[.pointer (some ⟨B,0,none⟩)] .returning w (Idle w):=by
 have hst:=zu w.drew g;have hB2:w.drew.cell? ⟨B,0,none⟩=some (.pointer (some ⟨g,0,none⟩)):=hB;refine callsD_of_wpS Tryz.func91 rfl fun c₀ cs hu=> ?_;refine jX (by kernel_rfl) (by rfl) (by kernel_rfl) (by kernel_rfl) (by kernel_rfl) (by kernel_rfl) ?_ ?_
 all_goals
  simp[wpOpsS,go_sem,recoverD,hu,Tryz.ntmps91,Exit.thenS,hB2]
  refine hst.mono ?_
  rintro e w' ⟨rfl,rfl⟩
  refine⟨rfl,.returning,?_,_,results_none rfl _ _ _,rfl,rfl,rfl⟩
  cases c₀
  simp_all
theorem DZ(w:World)(B g:Nat)(s:ByteArray)(r:RS)(c:Int)(older:List PanicEntry)(h:iH w g s r)(hB:w.cell? ⟨B,0,none⟩=some (.pointer (some ⟨g,0,none⟩))):
  CallsD Tryz.prog 173 #[.pointer (some ⟨B,0,none⟩)] (.panicking ({v:=.iface 33 (.int .i64 c),recovered:=false}::older)) w (Caught w g c older):=by
 have hst:=zq w.drew g s r c h;have hB2:w.drew.cell? ⟨B,0,none⟩=some (.pointer (some ⟨g,0,none⟩)):=hB;refine callsD_of_wpS Tryz.func173 rfl fun c₀ cs hu=> ?_;refine jX (by kernel_rfl) (by rfl) (by kernel_rfl) (by kernel_rfl) (by kernel_rfl) (by kernel_rfl) ?_ ?_
 all_goals
  simp[wpOpsS,go_sem,recoverD,hu,Tryz.ntmps173,Exit.thenS,hB2]
  refine hst.mono ?_
  rintro e w' ⟨rfl,rfl⟩
  exact⟨rfl,_,rfl,_,results_none rfl _ _ _,rfl,rfl,rfl⟩
theorem Va(w:World)(B g:Nat)(hB:w.cell? ⟨B,0,none⟩=some (.pointer (some ⟨g,0,none⟩))):
  CallsD Tryz.prog 173 #[.pointer (some ⟨B,0,none⟩)] .returning w (Idle w):=by
 have hst:=zu w.drew g;have hB2:w.drew.cell? ⟨B,0,none⟩=some (.pointer (some ⟨g,0,none⟩)):=hB;refine callsD_of_wpS Tryz.func173 rfl fun c₀ cs hu=> ?_;refine jX (by kernel_rfl) (by rfl) (by kernel_rfl) (by kernel_rfl) (by kernel_rfl) (by kernel_rfl) ?_ ?_
 all_goals
  simp[wpOpsS,go_sem,recoverD,hu,Tryz.ntmps173,Exit.thenS,hB2]
  refine hst.mono ?_
  rintro e w' ⟨rfl,rfl⟩
  refine⟨rfl,.returning,?_,_,results_none rfl _ _ _,rfl,rfl,rfl⟩
  cases c₀
  simp_all
theorem Jj(w:World)(B g:Nat)(s:ByteArray)(r:RS)(c:Int)(older:List PanicEntry)(h:iH w g s r)(hB:w.cell? ⟨B,0,none⟩=some (.pointer (some ⟨g,0,none⟩))):
  CallsD Tryz.prog 175 #[.pointer (some ⟨B,0,none⟩)] (.panicking ({v:=.iface 33 (.int .i64 c),recovered:=false}::older)) w (Caught w g c older):=by
 have hst:=zq w.drew g s r c h;have hB2:w.drew.cell? ⟨B,0,none⟩=some (.pointer (some ⟨g,0,none⟩)):=hB;refine callsD_of_wpS Tryz.func175 rfl fun c₀ cs hu=> ?_;refine jX (by kernel_rfl) (by rfl) (by kernel_rfl) (by kernel_rfl) (by kernel_rfl) (by kernel_rfl) ?_ ?_
 all_goals
  simp[wpOpsS,go_sem,recoverD,hu,Tryz.ntmps175,Exit.thenS,hB2]
  refine hst.mono ?_
  rintro e w' ⟨rfl,rfl⟩
  exact⟨rfl,_,rfl,_,results_none rfl _ _ _,rfl,rfl,rfl⟩
theorem Vb(w:World)(B g:Nat)(hB:w.cell? ⟨B,0,none⟩=some (.pointer (some ⟨g,0,none⟩))):
  CallsD Tryz.prog 175 #[.pointer (some ⟨B,0,none⟩)] .returning w (Idle w):=by
 have hst:=zu w.drew g;have hB2:w.drew.cell? ⟨B,0,none⟩=some (.pointer (some ⟨g,0,none⟩)):=hB;refine callsD_of_wpS Tryz.func175 rfl fun c₀ cs hu=> ?_;refine jX (by kernel_rfl) (by rfl) (by kernel_rfl) (by kernel_rfl) (by kernel_rfl) (by kernel_rfl) ?_ ?_
 all_goals
  simp[wpOpsS,go_sem,recoverD,hu,Tryz.ntmps175,Exit.thenS,hB2]
  refine hst.mono ?_
  rintro e w' ⟨rfl,rfl⟩
  refine⟨rfl,.returning,?_,_,results_none rfl _ _ _,rfl,rfl,rfl⟩
  cases c₀
  simp_all

/- Part 16 of what the proof needs. -/
import Derived.Test.YtfjdpbbgfjhnlaaGreatMK14
import Derived.Lib.EndianBits
import Derived.RangeFuncNested
import Derived.RangeFuncBound
set_option linter.unusedSimpArgs false
set_option linter.unusedVariables false
set_option maxHeartbeats 32000000
set_option maxRecDepth 100000
namespace Go.Proofs.YtfjdpbbgfjhnlaaGreat
open Go.RowKit
set_option maxRecDepth 100000
namespace Vn
open Ops (bG bl)
def GI:Except Nat (Nat×Nat)->Value
 | .ok (n,j)=> .tuple #[.int .u64 n,.int .i64 j,.int .i64 0]
 | .error c=> .tuple #[.int .u64 0,.int .i64 0,.int .i64 c]
theorem Iw(s:ByteArray)(i:Nat)(h:i<s.size):(bl s)[i]? =some s[i]:=by
 have h':i<s.data.toList.length:=by simpa using h
 show s.data.toList[i]? =_
 rw[List.getElem?_eq_getElem h']
 rfl
theorem adq(s:ByteArray):get (bl s) s.size=.error 2:=by
 unfold get
 rw[List.getElem?_eq_none (by rw[Ops.bJ];exact Nat.le_refl _)]
theorem Xt(s:ByteArray)(i:Nat)(h:i<s.size)(hb:s[i].toNat<248):get (bl s) i=.ok (s[i].toNat,i+1):=by
 unfold get
 rw[Iw s i h]
 simp only[if_pos hb]
theorem Xu(s:ByteArray)(i:Nat)(h:i<s.size)(hb:¬s[i].toNat<248)(hk:s.size-(i+1)<s[i].toNat-247):get (bl s) i=.error 2:=by
 unfold get
 rw[Iw s i h]
 simp only[if_neg hb]
 rw[if_pos (by rw[List.length_take,List.length_drop,Ops.bJ];omega)]
theorem aaI(s:ByteArray)(i k:Nat)(h:i<s.size)(hb:¬s[i].toNat<248)(hk:s[i].toNat-247=k)(hl:k<=s.size-(i+1)):
  get (bl s) i=if val ((((bl s).drop (i+1)).take k).map UInt8.toNat)<248\/needs (val ((((bl s).drop (i+1)).take k).map UInt8.toNat))≠k then .error 4 else .ok (val ((((bl s).drop (i+1)).take k).map UInt8.toNat),i+1+k):=by
 unfold get
 rw[Iw s i h]
 simp only[if_neg hb,hk]
 rw[if_neg (by rw[List.length_take,List.length_drop,Ops.bJ];omega)]
def numAt(s:ByteArray)(i j:Nat):Nat:=val ((((bl s).drop (i+1)).take j).map UInt8.toNat)
theorem Ux(s:ByteArray)(i j:Nat)(h:i+1+j<s.size):numAt s i (j+1)=numAt s i j*256+s[i+1+j].toNat:=by
 unfold numAt
 rw[List.take_add_one,List.getElem?_drop,Iw s _ h,List.map_append]
 exact BG _ _
theorem Og(s:ByteArray)(i j:Nat):numAt s i j<256^j:=by
 unfold numAt
 refine Nat.lt_of_lt_of_le (V5 _ (yg _)) (Nat.pow_le_pow_right (by decide) ?_)
 rw[List.length_map,List.length_take];exact Nat.min_le_left _ _
theorem Xv(s:ByteArray)(i j:Nat)(h:j<8):numAt s i j<72057594037927936:=by
 have h1:=Og s i j
 have h2:(256:Nat)^j<=256^7:=Nat.pow_le_pow_right (by decide) (by omega)
 have e:(256:Nat)^7=72057594037927936:=by decide
 omega
theorem Xw(s:ByteArray)(i j:Nat)(h:j<=8):numAt s i j<18446744073709551616:=by
 have h1:=Og s i j
 have h2:(256:Nat)^j<=256^8:=Nat.pow_le_pow_right (by decide) (by omega)
 have e:(256:Nat)^8=18446744073709551616:=by decide
 omega
theorem adr(m x:Nat)(hm:m<72057594037927936)(hx:x<256):bits .or .u64 ((m:Int)*256) (x:Int)=(m:Int)*256+x:=
 bits_join .u64 64 (by decide) wraps_u64 8 _ _ (by omega) (by omega) (by omega) (by omega) (by omega) (by omega)
theorem ext_get(s:ByteArray)(i j:Nat)(h:i+1+j<s.size)(h':j<(s.extract (i+1) s.size).size):(s.extract (i+1) s.size)[j]=s[i+1+j]:=by
 rw[ByteArray.getElem_extract]
theorem BZ(s:ByteArray)(i:Nat)(hi:i<=s.size)(hs:s.size<=maxLen)(w:World):Calls Tryz.prog 212 #[.string s,.int .i64 i] w fun e w'=>e=.returned (GI (get (bl s) i))/\w=w':=by
 unfold maxLen at hs
 by_cases he:i=s.size
 ·subst he
  rw[adq]
  go_enter Tryz.func212,Tryz.ntmps212
  go_wp2
  go_ret3
  exact⟨rfl,rfl⟩
 have hil:i<s.size:=by omega
 have hne:((i:Int)==(s.size:Int))=false:=by rw[beq_eq_false_iff_ne];omega
 have h256:=UInt8.toNat_lt s[i]
 by_cases hb:s[i].toNat<248
 ·rw[Xt s i hil hb]
  have hb2:((s[i].toNat:Int)<248):=by omega
  clear he
  go_enter Tryz.func212,Tryz.ntmps212
  go_wp2
  go_ret3
  exact⟨rfl,rfl⟩
 have hb2:¬((s[i].toNat:Int)<248):=by omega
 obtain⟨k,hk⟩:∃k,s[i].toNat-247=k:=⟨_,rfl⟩
 have hk8:k<=8:=by omega
 have hk1:1<=k:=by omega
 have hb3:(s[i].toNat:Int)-247=k:=by omega
 by_cases hsh:s.size-(i+1)<k
 ·rw[Xu s i hil hb (by omega)]
  obtain⟨x,hx⟩:∃x,s[i].toNat=x:=⟨_,rfl⟩
  rw[hx]at h256 hb hb2 hk hb3
  have hx2:(s[i].toNat:Int)=(x:Int):=by rw[hx]
  have HX:=ah hx;clear hx
  clear he hk
  obtain rfl:x=k+247:=by omega
  go_enter Tryz.func212,Tryz.ntmps212
  go_wp2
  go_ret3
  exact⟨rfl,rfl⟩
 rw[aaI s i k hil hb hk (by omega)]
 have hkl:k<=s.size-(i+1):=by omega
 have hnum:val ((((bl s).drop (i+1)).take k).map UInt8.toNat)=numAt s i k:=rfl
 rw[hnum]
 obtain⟨G,hG⟩:∃G,(if numAt s i k<248\/needs (numAt s i k)≠k then Except.error 4 else Except.ok (numAt s i k,i+1+k):Except Nat (Nat×Nat))=G:=⟨_,rfl⟩
 rw[hG]
 have FY:=ah hG;clear hG
 have hx2:(s[i].toNat:Int)=((k+247:Nat):Int):=by omega
 have hnn:¬s.size-(i+1)<k:=hsh
 clear he hb hb2 hb3 hk h256 hnum
 have HNN:=ah hnn;clear hnn hsh
 have q1:decide ((i:Int)<0)=false:=decide_eq_false (by omega)
 have q2:decide (s.size<i)=false:=decide_eq_false (by omega)
 have q3:decide ((k:Int)+247<248)=false:=decide_eq_false (by omega)
 go_enter Tryz.func212,Tryz.ntmps212
 go_wp2
 go_loop [9,50] (fun v9 v50=>∃j:Nat,j<=k/\v50=.int .i64 j/\v9=.int .u64 (numAt s i j)) (fun _ v50=>k-(intOf v50).toNat)
 case atStart=>exact⟨0,Nat.zero_le _,rfl,rfl⟩
 case round=>
  obtain⟨j,hj,rfl,rfl⟩:=hrel
  by_cases hjk:j<k
  ·have h7:=Xv s i j (by omega)
   obtain⟨m,hm⟩:∃m,numAt s i j=m:=⟨_,rfl⟩
   have hxs:j<(s.extract (i+1) s.size).size:=by rw[ByteArray.size_extract];omega
   obtain⟨y,hy⟩:∃y,(s.extract (i+1) s.size)[j].toNat=y:=⟨_,rfl⟩
   have agh:y<256:=by rw[<-hy];exact UInt8.toNat_lt _
   have hs:=Ux s i j (by omega)
   rw[<-ext_get s i j (by omega) hxs,hy,hm]at hs
   have HS:=ah hs;clear hs
   rw[hm]at h7
   rw[hm]
   have HM:=ah hm;clear hm
   have hwr:IntKind.u64.wrap (y:Int)=y:=wraps_u64 _ (by omega) (by omega)
   have hor:=adr m y h7 agh
   go_wp2
   go_round
   case rel=>exact⟨j+1,by omega,by go_num,by rw[HS.out];go_num⟩
   case measure=>simp[intOf];omega
  ·obtain rfl:j=k:=by omega
   have h8:=Xw s i j (by omega)
   obtain⟨m,hm⟩:∃m,numAt s i j=m:=⟨_,rfl⟩
   rw[hm]at h8
   rw[hm]
   have HM:=ah hm;clear hm
   by_cases hb:m<248
   ·have hb2:decide ((m:Int)<248)=true:=decide_eq_true (by omega)
    have HB:=ah hb;clear hb
    go_wp2
    go_ret3
    exact⟨by rw[<-FY.out,HM.out,if_pos (.inl HB.out)];rfl,rfl⟩
   ·have hb2:decide ((m:Int)<248)=false:=decide_eq_false (by omega)
    have hnd:=Hz m h8
    obtain⟨r,hr⟩:∃r,needs m=r:=⟨_,rfl⟩
    rw[hr]at hnd
    have HND:=ah hnd;clear hnd
    by_cases hrj:r=j
    ·subst hrj
     have HB:=ah hb;clear hb
     have HR:=ah hr;clear hr
     go_wp2_with fail
     refine(HND.out _).mono ?_
     rintro e w2 ⟨rfl,rfl⟩
     go_wp2
     go_ret3
     exact⟨by rw[<-FY.out,HM.out,HR.out,if_neg (by have:=HB.out;simp;omega)];rfl,rfl⟩
    ·have hne:((r:Int) !=(j:Int))=true:=by simpa using fun e=>hrj (by omega)
     have Oh:=ah hrj;clear hrj
     have HB:=ah hb;clear hb
     have HR:=ah hr;clear hr
     go_wp2_with fail
     refine(HND.out _).mono ?_
     rintro e w2 ⟨rfl,rfl⟩
     go_wp2
     go_ret3
     exact⟨by rw[<-FY.out,HM.out,HR.out,if_pos (.inr Oh.out)];rfl,rfl⟩
end Vn
namespace Fr
open Vn Ops
inductive kU
 |bad (e:Nat)
 |ok (t:List UInt8) (to:Nat)
def nextR(s:List UInt8)(i:Nat):kU:=
 match Vn.get s i with
 | .error e=> .bad e
 | .ok (n,j)=>if 65536<n then .bad 3 else if s.length<j+(4+n)then .bad 2 else
  if(s.drop j).take 4=qC (tC ((s.drop i).take (j-i)++(s.drop (j+4)).take n))then .ok ((s.drop (j+4)).take n) (j+4+n)else .bad 9
def zA:kU->Value
 | .bad e=> .tuple #[.string ⟨#[]⟩,.int .i64 0,.int .i64 (e:Int)]
 | .ok t to=> .tuple #[.string (bG t),.int .i64 (to:Int),.int .i64 0]
theorem zB(s:List UInt8)(i:Nat):(∃e,Vn.get s i=.error e/\(e=2\/e=4))\/∃n j,Vn.get s i=.ok (n,j):=by
 unfold Vn.get
 split
 ·exact .inl ⟨2,rfl,.inl rfl⟩
 ·split
  ·exact .inr ⟨_,_,rfl⟩
  ·dsimp only
   split
   ·exact .inl ⟨2,rfl,.inl rfl⟩
   ·split
    ·exact .inl ⟨4,rfl,.inr rfl⟩
    ·exact .inr ⟨_,_,rfl⟩
theorem GK(s:ByteArray)(a b:Nat):(s.extract a b).data.toList=((bl s).drop a).take (b-a):=by
 simp[bl,ByteArray.data_extract,List.extract_eq_take_drop]
theorem Xx(p q:ByteArray):(p.toList==q.toList)=decide (p=q):=by
 by_cases h:p=q
 ·subst h;simp
 ·have h2:p.data.toList≠q.data.toList:=fun e=>h (ByteArray.ext (Array.toList_inj.1 e))
  rw[decide_eq_false h]
  rw[ByteArray.toList_eq,ByteArray.toList_eq,beq_eq_false_iff_ne]
  exact h2
theorem next_any(w:World)(s:ByteArray)(i:Nat)(hi:i<=s.size)(hs:s.size<=1000000000):Calls Tryz.prog 132 #[.string s,.int .i64 i] w fun e w'=>e=.returned (zA (nextR (bl s) i))/\Kept aj w w':=by
 have hg:=fun W=>BZ s i hi (by unfold maxLen;omega) W
 unfold nextR
 rcases zB (bl s) i with⟨e,he,Xy⟩|⟨n,j,hnj⟩
 ·rw[he]
  rw[he]at hg
  unfold GI at hg
  dsimp only at hg⊢
  have HG:=ah hg;clear hg he
  rcases Xy with rfl|rfl
  all_goals
   go_enter Tryz.func132,Tryz.ntmps132
   go_wp2_with fail
   refine(HG.out _).mono ?_
   rintro e w1 ⟨rfl,rfl⟩
   go_wp2
   go_ret3
   exact⟨rfl,Kept.refl _ _⟩
 ·rw[hnj]
  rw[hnj]at hg
  unfold GI at hg
  dsimp only at hg⊢
  obtain⟨hij,hjs,ah',_⟩:=xY hnj
  rw[bJ]at hjs
  have HG:=ah hg;clear hg hnj
  by_cases h1:65536<n
  ·rw[if_pos h1]
   have h1':(65536:Int)<(n:Int):=by omega
   clear h1
   go_enter Tryz.func132,Tryz.ntmps132
   go_wp2_with fail
   refine(HG.out _).mono ?_
   rintro e w1 ⟨rfl,rfl⟩
   go_wp2
   go_ret3
   exact⟨rfl,Kept.refl _ _⟩
  rw[if_neg h1,bJ]
  have h1':¬(65536:Int)<(n:Int):=by omega
  by_cases h2:s.size<j+(4+n)
  ·rw[if_pos h2]
   have h2':(s.size:Int)-(j:Int)<4+(n:Int):=by omega
   clear h1 h2
   go_enter Tryz.func132,Tryz.ntmps132
   go_wp2_with fail
   refine(HG.out _).mono ?_
   rintro e w1 ⟨rfl,rfl⟩
   go_wp2
   go_ret3
   exact⟨rfl,Kept.refl _ _⟩
  rw[if_neg h2]
  have h2':¬(s.size:Int)-(j:Int)<4+(n:Int):=by omega
  have hd1:=GK s j (j+4)
  have hd2:=GK s i j
  have hd3:=GK s (j+4) (j+4+n)
  rw[show j+4-j=4 by omega]at hd1
  rw[show j+4+n-(j+4)=n by omega]at hd3
  have hsz2:(s.extract i j).size=j-i:=by rw[ByteArray.size_extract];omega
  have hsz3:(s.extract (j+4) (j+4+n)).size=n:=by rw[ByteArray.size_extract];omega
  have hsum:=fun W=>sum_any W (s.extract i j++s.extract (j+4) (j+4+n)) (by rw[ByteArray.size_append,hsz2,hsz3];omega)
  rw[show(s.extract i j++s.extract (j+4) (j+4+n)).data.toList=((bl s).drop i).take (j-i)++((bl s).drop (j+4)).take n by rw[<-hd2,<-hd3];simp]at hsum
  have hmk:=fun W=>Oe W (tC (((bl s).drop i).take (j-i)++((bl s).drop (j+4)).take n)) (Sz _)
  obtain⟨S,hS⟩:∃S,tC (((bl s).drop i).take (j-i)++((bl s).drop (j+4)).take n)=S:=⟨_,rfl⟩
  simp only[hS]at hsum hmk
  rw[hS]
  have Uw:¬9223372036854775807<(s.extract i j).size+(s.extract (j+4) (j+4+n)).size:=by rw[hsz2,hsz3];omega
  have ht:bG (((bl s).drop (j+4)).take n)=s.extract (j+4) (j+4+n):=by rw[<-hd3];exact yh _
  have hcmp:((bl s).drop j).take 4=qC S↔s.extract j (j+4)=bG (qC S):=by
   rw[<-hd1]
   constructor
   ·intro h;rw[<-h];exact(yh _).symm
   ·intro h;rw[h];exact jd _
  have heq:((s.extract j (j+4)).toList==(bG (qC S)).toList)=decide (s.extract j (j+4)=bG (qC S)):=Xx _ _
  obtain⟨v,hv⟩:∃v,decide (s.extract j (j+4)=bG (qC S))=v:=⟨_,rfl⟩
  rw[hv]at heq
  have hres:zA (if((bl s).drop j).take 4=qC S then .ok (((bl s).drop (j+4)).take n) (j+4+n)else .bad 9)=(if v=true then .tuple #[.string (s.extract (j+4) (j+4+n)),.int .i64 ((j:Int)+4+n),.int .i64 0]else .tuple #[.string ⟨#[]⟩,.int .i64 0,.int .i64 9]):=by
   by_cases hc:s.extract j (j+4)=bG (qC S)
   ·rw[if_pos (hcmp.2 hc),<-hv,if_pos (decide_eq_true hc)]
    show Value.tuple #[.string (bG (((bl s).drop (j+4)).take n)),.int .i64 ((j+4+n:Nat):Int),.int .i64 0]=_
    rw[ht,show((j+4+n:Nat):Int)=(j:Int)+4+n by omega]
   ·rw[if_neg (fun h=>hc (hcmp.1 h)),<-hv,if_neg (by rw[decide_eq_false hc];decide)]
    rfl
  rw[hres]
  obtain⟨E1,hE1⟩:∃E1,s.extract i j=E1:=⟨_,rfl⟩
  obtain⟨E3,hE3⟩:∃E3,s.extract (j+4) (j+4+n)=E3:=⟨_,rfl⟩
  rw[hE1,hE3]at Uw
  simp only[hE1,hE3]at hsum
  rw[hE3]
  have HS:=ah hsum;have HM:=ah hmk
  have HV:=ah hv
  clear hsum hmk hres hcmp hv ht hd1 hd2 hd3 hS hsz2 hsz3 h1 h2
  have b1:(j:Int)+4<=(s.size:Int):=by omega
  have b2:(j:Int)+4+(n:Int)<=(s.size:Int):=by omega
  have b3:((j:Int)+4).toNat=j+4:=by omega
  have b4:((j:Int)+4+(n:Int)).toNat=j+4+n:=by omega
  have b5:(j:Int)<=(s.size:Int):=by omega
  have b6:(i:Int)<=(j:Int):=by omega
  have b7:(j:Int)<=(j:Int)+4:=by omega
  have b8:(j:Int)+4<=(j:Int)+4+(n:Int):=by omega
  have b9:(0:Int)<=(j:Int)+4:=by omega
  have b10:(0:Int)<=(j:Int)+4+(n:Int):=by omega
  have b11:(0:Int)<=(j:Int):=by omega
  have b12:(0:Int)<=(i:Int):=by omega
  go_enter Tryz.func132,Tryz.ntmps132
  go_wp2_with fail
  refine(HG.out _).mono ?_
  rintro e w1 ⟨rfl,rfl⟩
  go_wp2_with fail
  have HW:=ah (Kept.refl aj w)
  go_region_held3 (fun _=>True) (trivial)
   (first
    |(go_at_call 214;((with_reducible refine(HS.out _).mono ?_);rintro e w2 ⟨rfl,hk0⟩;have hk:=Kept.then (F:=aj) (a:=w) (by(repeat'(first|(with_reducible first|exact ak|apply au|apply ay|apply aA|apply aB)|(exact HW.out)|(right;simp;done)))) hk0;clear HW hk0;have HW:=ah hk;clear hk))
    |(go_at_call 213;((with_reducible refine(HM.out _).mono ?_);rintro e w3 ⟨rfl,hk0⟩;have hk:=Kept.then (F:=aj) (a:=w) (by(repeat'(first|(with_reducible first|exact ak|apply au|apply ay|apply aA|apply aB)|(exact HW.out)|(right;simp;done)))) hk0;clear HW hk0;have HW:=ah hk;clear hk)))
  all_goals
   cases v
   all_goals
    go_wp2
    go_ret3
    refine⟨?_,HW.out⟩
    first|rfl|(rw[if_neg (by decide)];rfl)|(rw[if_pos rfl];rfl)
end Fr
end Go.Proofs.YtfjdpbbgfjhnlaaGreat
namespace Go.Proofs.YtfjdpbbgfjhnlaaGreat
open Go.RowKit Go.Shelf
attribute [local go_sem] Oper.semAt_some
set_option maxRecDepth 100000
namespace Fr
open Vn Ops
def eY(s:List UInt8):Nat->Nat->List kU
 |0,_=>[]
 |fuel+1,i=>if s.length<=i then []else match nextR s i with
  | .bad e=>[.bad e]
  | .ok t to=> .ok t to::eY s fuel to
def aV(s:List UInt8):List kU:=eY s (s.length+1) 0
theorem B6{s:List UInt8}{i to:Nat}{t:List UInt8}(h:nextR s i=.ok t to):i<to/\to<=s.length:=by
 unfold nextR at h
 rcases zB s i with⟨e,he,_⟩|⟨n,j,hj⟩
 ·rw[he]at h;cases h
 ·rw[hj]at h
  obtain⟨h1,h2,_⟩:=xY hj
  dsimp only at h
  split at h
  ·cases h
  ·split at h
   ·cases h
   ·split at h
    ·injection h with h3 h4
     omega
    ·cases h
def qm(e:Nat):Nat:=if e=0 then 2 else e
theorem Oi(e:Nat):qm e≠0:=by unfold qm;split<;>omega
theorem Oj{e:Nat}(h:e≠0):qm e=e:=if_neg h
def sU:kU->Value
 | .bad e=> .agg #[.string ⟨#[]⟩,.int .i64 0,.int .i64 (qm e:Int)]
 | .ok t to=> .agg #[.string (bG t),.int .i64 (to:Int),.int .i64 0]
theorem Bc{n:Nat}{P:Program}{a:Act}{w:World}{Q:Exit->Act->World->Prop}{c rest:Code}(l:Nat)(J:Act->World->Prop)(μ:Act->World->Nat)(hf:findLabel c l=some rest)
  (first:c.wpIn Fence.wide n P (Exit.jump l J Q) a w)
  (pass:∀a w,J a w->rest.wpIn Fence.wide n P (Exit.jump l (fun a' w'=>J a' w'/\μ a' w'<μ a w) Q) a w):(Code.scope c).wpIn Fence.wide n P Q a w:=
 wpIn_wide.2 (wp_scope_jumps l J μ hf (wpIn_wide.1 first) fun a w h=>wpIn_wide.1 (pass a w h))
theorem qT{l:Nat}{J:Act->World->Prop}{Q:Exit->Act->World->Prop}{a:Act}{w:World}:Exit.jump l J Q .ret a w=Q .ret a w:=rfl
def MS(a:Act):Int:=intOf (a.tmps.getD 3 undef)
structure KB(Bn:Nat)(A B:World):Prop where
 size:A.heap.size<=B.heap.size
 block:Bn<A.heap.size->B.heap[Bn]? =A.heap[Bn]?
theorem KB.refl(Bn:Nat)(A:World):KB Bn A A:=⟨Nat.le_refl _,fun _=>rfl⟩
theorem KB.trans{Bn:Nat}{A B C:World}(h:KB Bn A B)(k:KB Bn B C):KB Bn A C:=⟨Nat.le_trans h.size k.size,fun hl=>(k.block (Nat.lt_of_lt_of_le hl h.size)).trans (h.block hl)⟩
theorem KB.rJ{Bn:Nat}{A B:World}(h:Kept aj A B):KB Bn A B:=⟨h.size,fun hl=>h.block Bn hl (fun z=>z)⟩
theorem KB.cell{Bn:Nat}{A B:World}(h:KB Bn A B)(hl:Bn<A.heap.size)(i:Nat):B.cell? ⟨Bn,i,none⟩=A.cell? ⟨Bn,i,none⟩:=World.cell?_of_block (h.block hl)
theorem KB.put{Bn:Nat}{w:World}(hl:Bn<w.heap.size)(W:World)(l:Nat)(o o':Obj)(h:w.heap.size<=l)(_:W.heap[l]? =some o)(_:o.isCells=false)(_:o.isWalk=false):KB Bn W (W.putObj l o'):=
 ⟨Nat.le_of_eq (by simp[World.putObj]),fun _=>World.putObj_heap_other (by omega)⟩
theorem Eh{s:List UInt8}{i e:Nat}(h:nextR s i=.bad e):e≠0:=by
 unfold nextR at h
 rcases zB s i with⟨e',he,Xy⟩|⟨n,j,hj⟩
 ·rw[he]at h
  injection h with h
  omega
 ·rw[hj]at h
  dsimp only at h
  split at h
  ·injection h with h;omega
  ·split at h
   ·injection h with h;omega
   ·split at h
    ·cases h
    ·injection h with h;omega
theorem Uy(n:Nat)(hn:1<=n)(l Bn:Nat)(s:ByteArray)(hs:s.size<=1000000000)(J Jx:List kU->World->Prop)(W:World)(hBn:W.cell? ⟨Bn,0,none⟩=some (.string s))(hlow:Bn<W.heap.size)
  (hA:∀pre A B,J pre A->Kept aj A B->J pre B)
  (hY:∀pre x W,J pre W->pre.length<(aV (bl s)).length->YieldAt Fence.wide (n-1) Tryz.prog l #[sU x] W fun e W'=>
   (e=.returned (.bool true)/\J (pre++[x]) W'/\KB Bn W W')\/(e=.returned (.bool false)/\Jx (pre++[x]) W'))
  (h0:J [] W):
  CallsIn Fence.wide n Tryz.prog 250 #[.func (.yield l) #[] #[],.pointer (some ⟨Bn,0,none⟩)] W fun e W'=>(∃v,e=.returned v)/\
   ((∃ys,ys=aV (bl s)/\J ys W')\/(∃pre,pre<+:aV (bl s)/\Jx pre W')):=by
 have hfn:∀k,Fence.wide.fn k:=fun _=>trivial
 have HA:=ah hA;have HY:=ah hY;have WZ:=ah hBn
 clear hA hY
 refine callsIn_of_wp Tryz.func250 rfl trivial ?_ rfl
 simp only[Tryz.ntmps250,List.size_toArray,List.length_cons,List.length_nil,Nat.reduceAdd,Nat.reduceSub,Array.replicate_succ,Array.replicate_zero,List.push_toArray,List.append_toArray,List.nil_append,List.cons_append]
 gi_wp2
 refine Bc 0 (fun a' wr=>∃(i fuel:Nat) (pre:List kU) (u4 u5 u6 u7 u8 u9 u10 u11 u12 u13 u14 u15 u16 u17 u18 u19 u20 u21 u22 u23 u24 u25 u26 u27 u28 u29:Value),a'={tmps:=#[.func (.yield l) #[] #[],.pointer (some ⟨Bn,0,none⟩),undef,.int .i64 (i:Int),u4,u5,u6,u7,u8,u9,u10,u11,u12,u13,u14,u15,u16,u17,u18,u19,u20,u21,u22,u23,u24,u25,u26,u27,u28,u29],defers:=[]}/\i<=s.size/\s.size<i+(fuel+1)/\J pre wr/\KB Bn W wr/\aV (bl s)=pre++eY (bl s) (fuel+1) i) (fun a' _=>s.size-(MS a').toNat) rfl ?first ?pass
 case first=>
  obtain⟨fuel,hfuel⟩:∃fuel,fuel=s.size:=⟨_,rfl⟩
  obtain⟨pre,hpre⟩:∃pre:List kU,pre=[]:=⟨_,rfl⟩
  have hfl:aV (bl s)=pre++eY (bl s) (fuel+1) 0:=by rw[hpre,hfuel];unfold aV;rw[bJ];rfl
  have HF:=ah hfl
  have HJ:Hid (J pre W):=ah (by rw[hpre];exact h0)
  have HB:=ah (KB.refl Bn W)
  have c0:=hBn
  clear hfl h0 hpre hBn
  gi_wp2
  refine wpIn_label ?_
  by_cases hil:s.size<=0
  ·have aaJ:(s.size:Int)<=(0:Int):=by omega
   have hemp:(s=ByteArray.empty)=True:=eq_true (ByteArray.ext (Array.eq_empty_of_size_eq_zero (Nat.le_zero.1 hil)))
   have hnil:eY (bl s) (fuel+1) 0=[]:=by rw[eY,if_pos (by rw[bJ];exact hil)]
   have aaK:=ah hnil;clear hnil
   gi_wp2
   rw[qT]
   refine bodyPost_ret (results_none rfl _ _ _) rfl ?_
   exact⟨⟨_,rfl⟩,.inl ⟨_,by rw[HF.out,aaK.out,List.append_nil],HJ.out⟩⟩
  ·have aaJ:¬(s.size:Int)<=(0:Int):=by omega
   have hemp:(s=ByteArray.empty)=False:=eq_false (fun e=>by rw[e]at hil;exact hil (Nat.le_refl _))
   have hnx:=fun W=>next_any W s 0 (by omega) hs
   rcases hR:nextR (bl s) 0 with e0|⟨t,to⟩
   ·have hcons:eY (bl s) (fuel+1) 0=[.bad e0]:=by rw[eY,if_neg (by rw[bJ];exact hil),hR]
    have hfl:=HF.out
    rw[hcons]at hfl
    have hlen:pre.length<(aV (bl s)).length:=by rw[hfl,List.length_append];simp
    rw[hR]at hnx
    have he0:e0≠0:=Eh hR
    have he1:((e0:Int) !=0)=true:=by simpa using he0
    unfold zA at hnx
    have HN:=ah hnx;have oM:=ah hfl;have kQ:=ah hlen;have HE:=ah he1;have Xa:=ah (Oj he0)
    clear hnx hR hcons hfl hlen hil he0 he1
    gi_wp2_with (gi_at_call 132;(refine(callsIn_wide.2 (HN.out _)).mono ?_;rintro e w2 ⟨rfl,hk⟩;have HJ2:=ah (HA.out _ _ _ HJ.out hk);have HB2:=ah (HB.out.trans (KB.rJ hk));clear hk;obtain⟨fn,tmps,assign,body,hy,hR⟩:=HY.out pre (.bad e0) w2 HJ2.out kQ.out;simp only[sU,Xa.out]at hy))
    refine hR.mono ?_
    rintro e W3 (⟨rfl,hJ3,hk3⟩|⟨rfl,hJx3⟩)
    ·have Iy:=ah hJ3;clear hJ3 hk3
     have he1:=HE.out
     gi_wp2
     rw[qT]
     refine bodyPost_ret (results_none rfl _ _ _) rfl ?_
     exact⟨⟨_,rfl⟩,.inl ⟨_,oM.out.symm,Iy.out⟩⟩
    ·have Cb:=ah hJx3;clear hJx3
     gi_wp2
     rw[qT]
     refine bodyPost_ret (results_none rfl _ _ _) rfl ?_
     exact⟨⟨_,rfl⟩,.inr ⟨_,by rw[oM.out];exact List.prefix_refl _,Cb.out⟩⟩
   ·have hcons:eY (bl s) (fuel+1) 0=.ok t to::eY (bl s) fuel to:=by rw[eY,if_neg (by rw[bJ];exact hil),hR]
    have hto:=B6 hR
    rw[bJ]at hto
    have hfl:=HF.out
    rw[hcons]at hfl
    have hlen:pre.length<(aV (bl s)).length:=by rw[hfl,List.length_append];simp
    have Ei:aV (bl s)=(pre++[.ok t to])++eY (bl s) fuel to:=by rw[hfl];simp
    rw[hR]at hnx
    unfold zA at hnx
    have HN:=ah hnx;have oM:=ah Ei;have kQ:=ah hlen
    clear hnx hR hcons hfl hlen hil Ei
    gi_wp2_with (gi_at_call 132;(refine(callsIn_wide.2 (HN.out _)).mono ?_;rintro e w2 ⟨rfl,hk⟩;have HJ2:=ah (HA.out _ _ _ HJ.out hk);have HB2:=ah (HB.out.trans (KB.rJ hk));clear hk;obtain⟨fn,tmps,assign,body,hy,hR⟩:=HY.out pre (.ok t to) w2 HJ2.out kQ.out;simp only[sU]at hy))
    refine hR.mono ?_
    rintro e W3 (⟨rfl,hJ3,hk3⟩|⟨rfl,hJx3⟩)
    ·have Iy:=ah hJ3;have HB3:=ah (HB2.out.trans hk3);clear hJ3 hk3
     gi_wp2
     refine wpIn_goto ?_
     exact⟨rfl,⟨to,fuel-1,pre++[.ok t to],_,_,_,_,_,_,_,_,_,_,_,_,_,_,_,_,_,_,_,_,_,_,_,_,_,_,rfl,by omega,by omega,Iy.out,HB3.out,by rw[show fuel-1+1=fuel by omega];exact oM.out⟩⟩
    ·have Cb:=ah hJx3;clear hJx3
     gi_wp2
     rw[qT]
     refine bodyPost_ret (results_none rfl _ _ _) rfl ?_
     exact⟨⟨_,rfl⟩,.inr ⟨_,by rw[oM.out];exact List.prefix_append _ _,Cb.out⟩⟩
 case pass=>
  rintro a' wr ⟨i,fuel,pre,u4,u5,u6,u7,u8,u9,u10,u11,u12,u13,u14,u15,u16,u17,u18,u19,u20,u21,u22,u23,u24,u25,u26,u27,u28,u29,rfl,hi,hfu,hJ,hB,hfl⟩
  have c0:wr.cell? ⟨Bn,0,none⟩=some (.string s):=(hB.cell hlow 0).trans WZ.out
  have HF:=ah hfl;have HJ:=ah hJ;have HB:=ah hB
  clear hfl hJ hB h0 hBn
  by_cases hil:s.size<=i
  ·have aaJ:(s.size:Int)<=(i:Int):=by omega
   skip
   have hnil:eY (bl s) (fuel+1) i=[]:=by rw[eY,if_pos (by rw[bJ];exact hil)]
   have aaK:=ah hnil;clear hnil
   gi_wp2
   rw[qT]
   refine bodyPost_ret (results_none rfl _ _ _) rfl ?_
   exact⟨⟨_,rfl⟩,.inl ⟨_,by rw[HF.out,aaK.out,List.append_nil],HJ.out⟩⟩
  ·have aaJ:¬(s.size:Int)<=(i:Int):=by omega
   skip
   have hnx:=fun W=>next_any W s i (by omega) hs
   rcases hR:nextR (bl s) i with e0|⟨t,to⟩
   ·have hcons:eY (bl s) (fuel+1) i=[.bad e0]:=by rw[eY,if_neg (by rw[bJ];exact hil),hR]
    have hfl:=HF.out
    rw[hcons]at hfl
    have hlen:pre.length<(aV (bl s)).length:=by rw[hfl,List.length_append];simp
    rw[hR]at hnx
    have he0:e0≠0:=Eh hR
    have he1:((e0:Int) !=0)=true:=by simpa using he0
    unfold zA at hnx
    have HN:=ah hnx;have oM:=ah hfl;have kQ:=ah hlen;have HE:=ah he1;have Xa:=ah (Oj he0)
    clear hnx hR hcons hfl hlen hil he0 he1
    gi_wp2_with (gi_at_call 132;(refine(callsIn_wide.2 (HN.out _)).mono ?_;rintro e w2 ⟨rfl,hk⟩;have HJ2:=ah (HA.out _ _ _ HJ.out hk);have HB2:=ah (HB.out.trans (KB.rJ hk));clear hk;obtain⟨fn,tmps,assign,body,hy,hR⟩:=HY.out pre (.bad e0) w2 HJ2.out kQ.out;simp only[sU,Xa.out]at hy))
    refine hR.mono ?_
    rintro e W3 (⟨rfl,hJ3,hk3⟩|⟨rfl,hJx3⟩)
    ·have Iy:=ah hJ3;clear hJ3 hk3
     have he1:=HE.out
     gi_wp2
     rw[qT]
     refine bodyPost_ret (results_none rfl _ _ _) rfl ?_
     exact⟨⟨_,rfl⟩,.inl ⟨_,oM.out.symm,Iy.out⟩⟩
    ·have Cb:=ah hJx3;clear hJx3
     gi_wp2
     rw[qT]
     refine bodyPost_ret (results_none rfl _ _ _) rfl ?_
     exact⟨⟨_,rfl⟩,.inr ⟨_,by rw[oM.out];exact List.prefix_refl _,Cb.out⟩⟩
   ·have hcons:eY (bl s) (fuel+1) i=.ok t to::eY (bl s) fuel to:=by rw[eY,if_neg (by rw[bJ];exact hil),hR]
    have hto:=B6 hR
    rw[bJ]at hto
    have hfl:=HF.out
    rw[hcons]at hfl
    have hlen:pre.length<(aV (bl s)).length:=by rw[hfl,List.length_append];simp
    have Ei:aV (bl s)=(pre++[.ok t to])++eY (bl s) fuel to:=by rw[hfl];simp
    rw[hR]at hnx
    unfold zA at hnx
    have HN:=ah hnx;have oM:=ah Ei;have kQ:=ah hlen
    clear hnx hR hcons hfl hlen hil Ei
    gi_wp2_with (gi_at_call 132;(refine(callsIn_wide.2 (HN.out _)).mono ?_;rintro e w2 ⟨rfl,hk⟩;have HJ2:=ah (HA.out _ _ _ HJ.out hk);have HB2:=ah (HB.out.trans (KB.rJ hk));clear hk;obtain⟨fn,tmps,assign,body,hy,hR⟩:=HY.out pre (.ok t to) w2 HJ2.out kQ.out;simp only[sU]at hy))
    refine hR.mono ?_
    rintro e W3 (⟨rfl,hJ3,hk3⟩|⟨rfl,hJx3⟩)
    ·have Iy:=ah hJ3;have HB3:=ah (HB2.out.trans hk3);clear hJ3 hk3
     gi_wp2
     refine wpIn_goto ?_
     refine⟨rfl,⟨to,fuel-1,pre++[.ok t to],_,_,_,_,_,_,_,_,_,_,_,_,_,_,_,_,_,_,_,_,_,_,_,_,_,_,rfl,by omega,by omega,Iy.out,HB3.out,by rw[show fuel-1+1=fuel by omega];exact oM.out⟩,?_⟩
     show(s.size-(MS _).toNat)<(s.size-(MS _).toNat)
     simp[MS,intOf]
     omega
    ·have Cb:=ah hJx3;clear hJx3
     gi_wp2
     rw[qT]
     refine bodyPost_ret (results_none rfl _ _ _) rfl ?_
     exact⟨⟨_,rfl⟩,.inr ⟨_,by rw[oM.out];exact List.prefix_append _ _,Cb.out⟩⟩
end Fr
end Go.Proofs.YtfjdpbbgfjhnlaaGreat
namespace Go.Proofs.YtfjdpbbgfjhnlaaGreat
set_option maxRecDepth 100000
namespace Fr
open Vn Ops
theorem og(t:List UInt8):(bI t).length=(put t.length).length+4+t.length:=by simp[bI,qC];omega
theorem Cc(pre t rest:List UInt8)(ht:t.length<=65536):nextR (pre++bI t++rest) pre.length=.ok t (pre.length+(bI t).length):=by
 have e:pre++bI t++rest=pre++put t.length++(qC (tC (put t.length++t))++t++rest):=by simp[bI]
 have hg:=get_put pre (qC (tC (put t.length++t))++t++rest) t.length (by omega)
 have hm:(qC (tC (put t.length++t))).length=4:=rfl
 rw[og,e]
 generalize hp:put t.length=p at*
 generalize hmm:qC (tC (p++t))=m at*
 unfold nextR
 rw[hg]
 dsimp only
 have d1:(pre++p++(m++t++rest)).drop (pre.length+p.length)=m++t++rest:=by
  rw[List.drop_append_of_le_length (by simp),List.drop_eq_nil_of_le (by simp)];rfl
 have d2:(pre++p++(m++t++rest)).drop pre.length=p++(m++t++rest):=by simp
 have d3:(pre++p++(m++t++rest)).drop (pre.length+p.length+4)=t++rest:=by
  rw[<-List.drop_drop,d1,<-hm];simp
 rw[if_neg (by omega),if_neg (by simp;omega),d1,d2,d3]
 have t1:(m++t++rest).take 4=m:=by rw[<-hm];simp
 have t2:(p++(m++t++rest)).take (pre.length+p.length-pre.length)=p:=by rw[Nat.add_sub_cancel_left];simp
 have t3:(t++rest).take t.length=t:=by simp
 rw[t1,t2,t3,hmm,if_pos rfl]
 congr 1
 omega
theorem aaL(pre p:List UInt8)(n:Nat)(h:n<18446744073709551616)(hp:p<+:put n)(hl:p.length<(put n).length):Vn.get (pre++p) pre.length=.error 2:=by
 have h8:=wG h
 cases p with
 |nil=>unfold Vn.get;rw[List.append_nil,List.getElem?_eq_none (Nat.le_refl _)]
 |cons b p=>
  by_cases hs:n<248
  ·rw[qO hs]at hl;simp at hl
  ·rw[xX hs]at hp hl
   have hk:=zi n
   have hb:b=UInt8.ofNat (247+needs n):=by
    obtain⟨r,hr⟩:=hp
    simp only[nT,List.map_cons,List.cons_append]at hr
    exact(List.cons.inj hr).1
   have e2:b.toNat=247+needs n:=by rw[hb,UInt8.toNat_ofNat'];omega
   have hl2:p.length<needs n:=by simpa [nT,lI]using hl
   unfold Vn.get
   rw[List.getElem?_append_right (Nat.le_refl _),Nat.sub_self]
   simp only[List.getElem?_cons_zero]
   rw[if_neg (by omega),if_pos (by simp;omega)]
theorem Ej(pre q t:List UInt8)(ht:t.length<=65536)(hq:q<+:bI t)(hl:q.length<(bI t).length):nextR (pre++q) pre.length=.bad 2:=by
 by_cases hp:q.length<(put t.length).length
 ·have h1:q<+:put t.length:=List.prefix_of_prefix_length_le hq (by unfold bI;rw[List.append_assoc];exact List.prefix_append _ _) (by omega)
  unfold nextR
  rw[aaL pre q _ (by omega) h1 hp]
 ·have h1:put t.length<+:q:=List.prefix_of_prefix_length_le (by unfold bI;rw[List.append_assoc];exact List.prefix_append _ _) hq (by omega)
  obtain⟨r,rfl⟩:=h1
  unfold nextR
  rw[<-List.append_assoc,get_put pre r t.length (by omega)]
  dsimp only
  rw[og]at hl
  rw[if_neg (by omega),if_pos (by simp at hl⊢;omega)]
def dP(ts:List (List UInt8)):List UInt8:=(ts.map bI).flatten
theorem ML(q t':List UInt8)(ht':t'.length<=65536)(hq:q<+:bI t')(hl:q.length<(bI t').length):∀(ts:List (List UInt8)) (pre:List UInt8) (fuel:Nat),(∀t∈ts,t.length<=65536)->ts.length+1<=fuel->
  ∃rs:List kU,eY (pre++dP ts++q) fuel pre.length=rs++(if q=[]then []else [.bad 2])/\rs.map (fun| .ok t _=>some t| .bad _=>none)=ts.map some
 |[],pre,fuel,_,hf=>by
  obtain⟨fuel,rfl⟩:∃k,fuel=k+1:=⟨fuel-1,by simp at hf;omega⟩
  refine⟨[],?_,rfl⟩
  unfold eY
  by_cases h:q=[]
  ·subst h;simp[dP]
  ·have:0<q.length:=List.length_pos_iff.2 h
   have e:pre++dP []++q=pre++q:=by simp[dP]
   rw[e,if_neg (by simp;omega),Ej pre q t' ht' hq hl,if_neg h]
   rfl
 |t::ts,pre,fuel,hb,hf=>by
  obtain⟨fuel,rfl⟩:∃k,fuel=k+1:=⟨fuel-1,by simp at hf;omega⟩
  obtain⟨rs,h1,h2⟩:=ML q t' ht' hq hl ts (pre++bI t) fuel (fun x hx=>hb x (by simp[hx])) (by simp at hf;omega)
  have e:pre++dP (t::ts)++q=pre++bI t++(dP ts++q):=by simp[dP]
  have e2:pre++bI t++dP ts++q=pre++bI t++(dP ts++q):=by simp
  rw[e2]at h1
  refine⟨.ok t (pre.length+(bI t).length)::rs,?_,by simp[h2]⟩
  rw[e]
  unfold eY
  have hpos:=og t
  rw[if_neg (by simp;omega),Cc pre t _ (hb t (by simp))]
  dsimp only
  rw[List.length_append]at h1
  rw[h1]
  rfl
def dh:List kU->List (List UInt8)
 | .ok t _::l=>t::dh l
 |_=>[]
def kV:Nat->List kU->Nat
 |_,.ok _ to::l=>kV to l
 |a,_=>a
def oI:List kU->Nat
 | .ok _ _::l=>oI l
 | .bad e::_=>qm e
 |[]=>0
def bZ(l:List (List UInt8)):List Value:=l.map fun t=> .string (bG t)
def zC:List kU->Prop
 | .ok _ _::l=>zC l
 | .bad _::_=>False
 |[]=>True
theorem aeB{pre:List kU}(h:zC pre)(t:List UInt8)(to:Nat):dh (pre++[.ok t to])=dh pre++[t]/\(∀a,kV a (pre++[.ok t to])=to)/\zC (pre++[.ok t to]):=by
 induction pre with
 |nil=>exact⟨rfl,fun _=>rfl,trivial⟩
 |cons x pre ih=>
  cases x with
  |bad e=>exact h.elim
  |ok t' Xz=>
   obtain⟨h1,h2,h3⟩:=ih h
   exact⟨by show t'::dh (pre++_)=t'::dh pre++[t];rw[h1];rfl,fun a=>h2 Xz,h3⟩
theorem ads{p:List kU}(h:zC p)(e:Nat)(r:List kU):dh (p++ .bad e::r)=dh p/\(∀a,kV a (p++ .bad e::r)=kV a p)/\oI (p++ .bad e::r)=qm e:=by
 induction p with
 |nil=>exact⟨rfl,fun _=>rfl,rfl⟩
 |cons x p ih=>
  cases x with
  |bad e=>exact h.elim
  |ok t' Xz=>
   obtain⟨h1,h2,h3⟩:=ih h
   exact⟨by show t'::dh (p++_)=t'::dh p;rw[h1],fun a=>h2 Xz,h3⟩
theorem adt{p:List kU}(h:zC p):oI p=0:=by
 induction p with
 |nil=>rfl
 |cons x p ih=>
  cases x with
  |bad e=>exact h.elim
  |ok t' Xz=>exact ih h
theorem Fh(p:List kU):(dh p).length<=p.length:=by
 induction p with
 |nil=>exact Nat.le_refl _
 |cons x p ih=>
  cases x with
  |bad e=>exact Nat.zero_le _
  |ok t' Xz=>show(dh p).length+1<=p.length+1;omega
theorem sH(s:List UInt8):∀(fuel i:Nat),(eY s fuel i).length<=fuel
 |0,_=>Nat.le_refl _
 |fuel+1,i=>by
  unfold eY
  split
  ·exact Nat.zero_le _
  ·split
   ·simp
   ·have:=sH s fuel;simp;exact this _
theorem XA(ts:List (List UInt8)):ts.length<=(dP ts).length:=by
 induction ts with
 |nil=>exact Nat.zero_le _
 |cons t ts ih=>
  have e:dP (t::ts)=bI t++dP ts:=by simp[dP]
  have:=og t
  rw[e,List.length_append,List.length_cons]
  omega
theorem FZ(q t':List UInt8)(ht':t'.length<=65536)(hq:q<+:bI t')(hl:q.length<(bI t').length):∀(ts:List (List UInt8)) (pre:List UInt8) (fuel:Nat),(∀t∈ts,t.length<=65536)->ts.length+1<=fuel->
  dh (eY (pre++dP ts++q) fuel pre.length)=ts/\kV pre.length (eY (pre++dP ts++q) fuel pre.length)=pre.length+(dP ts).length/\oI (eY (pre++dP ts++q) fuel pre.length)=if q=[]then 0 else qm 2
 |[],pre,fuel,_,hf=>by
  obtain⟨fuel,rfl⟩:∃k,fuel=k+1:=⟨fuel-1,by simp at hf;omega⟩
  unfold eY
  by_cases h:q=[]
  ·subst h;simp[dP,dh,kV,oI]
  ·have:0<q.length:=List.length_pos_iff.2 h
   have e:pre++dP []++q=pre++q:=by simp[dP]
   rw[e,if_neg (by simp;omega),Ej pre q t' ht' hq hl,if_neg h]
   exact⟨rfl,rfl,rfl⟩
 |t::ts,pre,fuel,hb,hf=>by
  obtain⟨fuel,rfl⟩:∃k,fuel=k+1:=⟨fuel-1,by simp at hf;omega⟩
  obtain⟨h1,h2,h3⟩:=FZ q t' ht' hq hl ts (pre++bI t) fuel (fun x hx=>hb x (by simp[hx])) (by simp at hf;omega)
  have e0:dP (t::ts)=bI t++dP ts:=by simp[dP]
  have e:pre++dP (t::ts)++q=pre++bI t++(dP ts++q):=by simp[dP]
  have e2:pre++bI t++dP ts++q=pre++bI t++(dP ts++q):=by simp
  rw[e2,List.length_append]at h1 h2 h3
  rw[e]
  unfold eY
  have hpos:=og t
  rw[if_neg (by simp;omega),Cc pre t _ (hb t (by simp))]
  dsimp only
  refine⟨by show t::dh _=_;rw[h1],?_,h3⟩
  show kV (pre.length+(bI t).length) _=_
  rw[h2,e0,List.length_append]
  omega
theorem XB(ts:List (List UInt8))(q t':List UInt8)(hb:∀t∈ts,t.length<=65536)(ht':t'.length<=65536)(hq:q<+:bI t')(hl:q.length<(bI t').length):
  dh (aV (dP ts++q))=ts/\kV 0 (aV (dP ts++q))=(dP ts).length/\oI (aV (dP ts++q))=if q=[]then 0 else qm 2:=by
 have h:=FZ q t' ht' hq hl ts [] ((dP ts++q).length+1) hb (by have:=XA ts;simp;omega)
 simpa [aV]using h
end Fr
end Go.Proofs.YtfjdpbbgfjhnlaaGreat
namespace Go.Proofs.YtfjdpbbgfjhnlaaGreat
set_option maxRecDepth 100000
namespace Fr
theorem JM{F:Fence}{n:Nat}{P:Program}{ops:Array Oper}{Q:Exit->Act->World->Prop}{i l:Nat}{K:Act->World->Prop}{a:Act}{w:World}(hro:F.round=none)(hd:∀(j:Nat) (o:Oper),ops[j]? =some o->∀c,o.op≠ .defer c)
  (h:wpOpIn F n P ops Q i K a w):wpOpIn (F.inRound l) n P ops Q i K a w:=by
 unfold wpOpIn at*
 cases ho:ops[i]? with
 |none=>simpa only[ho]using h
 |some o=>
  simp only[ho]at h⊢
  split
  ·rename_i hw
   simp only[hw,if_true]at h
   unfold Oper.wpIn at*
   refine⟨h.1,?_⟩
   have h2:=h.2
   rw[hro,Oper.semAt_none]at h2
   show o.uponIn (F.inRound l) n P a K Q ((o.semAt (some l) a.eval).run P w)
   rw[Oper.semAt_some l _ _ (hd i o ho)]
   exact h2
  ·rename_i hw
   simp only[hw]at h
   exact h
theorem Iz{F:Fence}{n:Nat}{P:Program}{md:Region.Mode}{ops:Array Oper}{Q:Exit->Act->World->Prop}{l:Nat}(hro:F.round=none)(hd:∀(j:Nat) (o:Oper),ops[j]? =some o->∀c,o.op≠ .defer c):
  ∀(fuel:Nat) (listed:Array Bool) (a:Act) (w:World),wpAnyIn F n P md ops Q fuel listed a w->wpAnyIn (F.inRound l) n P md ops Q fuel listed a w:=by
 intro fuel
 induction fuel with
 |zero=>intro listed a w h;exact h
 |succ fuel ih=>
  intro listed a w h
  exact⟨h.1,fun i hi=>JM hro hd (wpOpIn_mono (fun a w=>ih _ a w) (h.2 i hi))⟩
theorem FU{F:Fence}{n:Nat}{P:Program}{ops:List Oper}{Q:Exit->Act->World->Prop}{l id:Nat}{a:Act}{w:World}(hro:F.round=none)(hm:P.follows .mixedOrders=true)(hd:∀o∈ops,∀c,o.op≠ .defer c)
  (h:wpAnyIn F n P .any ops.toArray Q ops.toArray.size (Array.replicate ops.toArray.size false) a w.drew):(Code.region id ops.toArray true).wpIn (F.inRound l) n P Q a w:=
 wpIn_region_any hm (Iz hro (fun j o ho=>hd o (by
  have:=Array.mem_of_getElem? ho
  simpa using this)) _ _ _ _ h)
end Fr
end Go.Proofs.YtfjdpbbgfjhnlaaGreat

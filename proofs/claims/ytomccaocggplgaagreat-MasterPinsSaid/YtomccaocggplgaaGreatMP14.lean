/- Part 15. -/
import Derived.Test.YtomccaocggplgaaGreatMP00
import Derived.Lib.EndianBits
import Derived.Deep.RegionHeld3
import Derived.RangeFuncNested
import Derived.RangeFuncBound
import Derived.Shelf.RegionOpen
import Derived.OwnWalkIn
import Derived.LoopNIn
import Derived.LoopIn
set_option linter.unusedSimpArgs false
set_option linter.unusedVariables false
set_option maxHeartbeats 32000000
set_option maxRecDepth 100000
namespace Go.Proofs.YtomccaocggplgaaGreat
open Go.RowKit
namespace Fr
open Vn
def tab:List Nat:=[0,498536548,997073096,651767980,1994146192,1802195444,1303535960,1342533948,3988292384,4027552580,3604390888,3412177804,2607071920,2262029012,2685067896,3183342108]
def hN(x:Nat):Nat:=tab.getD (x&&&15) 0
theorem NQ(x:Nat):hN x<4294967296:=by
 unfold hN;have h:x&&&15<16:=Nat.lt_of_le_of_lt Nat.and_le_right (by decide);generalize x&&&15=k at h;have h2:∀k:Fin 16,tab.getD k.val 0<4294967296:=by decide
 exact h2 ⟨k,h⟩
theorem aei(k:Nat)(h:k<16):([Value.int .u32 0,.int .u32 498536548,.int .u32 997073096,.int .u32 651767980,.int .u32 1994146192,.int .u32 1802195444,.int .u32 1303535960,.int .u32 1342533948,.int .u32 3988292384,.int .u32 4027552580,.int .u32 3604390888,.int .u32 3412177804,.int .u32 2607071920,.int .u32 2262029012,.int .u32 2685067896,.int .u32 3183342108][k]'h)=.int .u32 ((tab.getD k 0:Nat):Int):=by
 have h2:∀k:Fin 16,([0,498536548,997073096,651767980,1994146192,1802195444,1303535960,1342533948,3988292384,4027552580,3604390888,3412177804,2607071920,2262029012,2685067896,3183342108]:List Int)[k.val]'k.isLt=((tab.getD k.val 0:Nat):Int):=by decide
 have h3:=h2 ⟨k,h⟩;rw[<-h3];exact(List.getElem_map (Value.int .u32) (l:=[0,498536548,997073096,651767980,1994146192,1802195444,1303535960,1342533948,3988292384,4027552580,3604390888,3412177804,2607071920,2262029012,2685067896,3183342108]) (h:=h))
theorem Je(w:World)(x:Nat)(hx:x<4294967296):Calls Tryz.prog 245 #[.int .u32 (x:Int)] w fun e w'=>e=.returned (.int .u32 (hN x:Nat))/\Kept aj w w':=by
 have hb:bits .and .u32 (x:Int) 15=((x&&&15:Nat):Int):=u32_and_nat x 15 hx (by decide);have hlt:x&&&15<16:=Nat.lt_of_le_of_lt Nat.and_le_right (by decide);have hr:hN x=tab.getD (x&&&15) 0:=rfl;rw[hr];obtain⟨k,hk⟩:∃k,x&&&15=k:=⟨_,rfl⟩;rw[hk]at hb hlt⊢;have hlt':(k:Int)<16:=by omega
 have hg:=aei k hlt;have HR:=ah hg;clear hr hk hx hg;go_enter Tryz.func245,Tryz.ntmps245;go_wp2;go_ret;exact⟨by rw[<-HR.out];rfl,by(repeat'(first|(with_reducible first|exact ak|apply au|apply ay|apply aA|apply aB)|(right;simp;done)))⟩
def OW(w b:Nat):Nat:=((w^^^b)/16^^^hN (w^^^b))/16^^^hN ((w^^^b)/16^^^hN (w^^^b))
theorem BN{a b:Nat}(ha:a<4294967296)(hb:b<4294967296):a^^^b<4294967296:=Nat.xor_lt_two_pow (n:=32) ha hb
def runN(s:List UInt8):Nat:=s.foldl (fun w b=>OW w b.toNat) 4294967295
theorem afs{w b:Nat}(hw:w<4294967296)(hb:b<256):OW w b<4294967296:=by unfold OW;have h1:w^^^b<4294967296:=BN hw (by omega);have h2:(w^^^b)/16^^^hN (w^^^b)<4294967296:=BN (by omega) (NQ _);exact BN (by omega) (NQ _)
theorem KE(s:List UInt8):runN s<4294967296:=by
 have h:∀(l:List UInt8) (w:Nat),w<4294967296->l.foldl (fun w b=>OW w b.toNat) w<4294967296:=by
  intro l;induction l with
  |nil=>intro w h;exact h
  |cons b l ih=>intro w h;exact ih _ (afs h (UInt8.toNat_lt b))
 exact h s _ (by decide)
theorem X8(s:List UInt8)(b:UInt8):runN (s++[b])=OW (runN s) b.toNat:=by simp[runN]
def ug(s:List UInt8):Nat:=4294967295^^^runN s
theorem TF(s:List UInt8):ug s<4294967296:=BN (by decide) (KE s)
theorem sum_any(w:World)(s:ByteArray)(hs:s.size<=1000000000000):Calls Tryz.prog 210 #[.string s] w fun e w'=>e=.returned (.int .u32 (ug s.data.toList:Nat))/\Kept aj w w':=by
 obtain⟨R,hR⟩:∃R,ug s.data.toList=R:=⟨_,rfl⟩;rw[hR];have HR:=ah hR;clear hR;go_enter Tryz.func210,Tryz.ntmps210;go_wp2_with fail;go_loopw [3,4,7] (fun v3 _ v7 wr=>∃i:Nat,i<=s.size/\v7=.int .i64 i/\v3=.int .u32 (runN (s.data.toList.take i):Nat)/\Kept aj w wr) (fun _ _ v7 _=>s.size-(RowKit.intOf v7).toNat)
 case atStart=>exact⟨0,Nat.zero_le _,rfl,rfl,Kept.refl _ _⟩
 case round=>
  obtain⟨i,hi,rfl,rfl,hk⟩:=hrel;have HK:=ah hk;clear hk;by_cases hil:i<s.size
  ·have hget:s.data.toList[i]? =some s[i]:=by rw[Array.getElem?_toList];exact Array.getElem?_eq_getElem (xs:=s.data) hil
   have hst:runN (s.data.toList.take (i+1))=OW (runN (s.data.toList.take i)) (s[i]).toNat:=by rw[List.take_add_one,hget];exact X8 _ _
   have hlt:=KE (s.data.toList.take i);obtain⟨W,hW⟩:∃W,runN (s.data.toList.take i)=W:=⟨_,rfl⟩;rw[hW]at hst hlt;rw[hW];obtain⟨b,hb⟩:∃b,(s[i]).toNat=b:=⟨_,rfl⟩;have hb256:b<256:=by rw[<-hb];exact UInt8.toNat_lt _
   rw[hb]at hst;have hx1:bits .xor .u32 (W:Int) (b:Int)=((W^^^b:Nat):Int):=u32_xor_nat W b hlt (by omega);have hl1:W^^^b<4294967296:=BN hlt (by omega);unfold OW at hst;obtain⟨X,hX⟩:∃X,W^^^b=X:=⟨_,rfl⟩;rw[hX]at hst hx1 hl1;have hh1:=fun W=>Je W X hl1;have hl2:=NQ X;obtain⟨H,hH⟩:∃H,hN X=H:=⟨_,rfl⟩;rw[hH]at hst hl2;simp only[hH]at hh1;have hx2:bits .xor .u32 ((X:Int)/16) (H:Int)=((X/16^^^H:Nat):Int):=by have h:=u32_xor_nat (X/16) H (by omega) hl2;simpa using h
   have hl3:X/16^^^H<4294967296:=BN (by omega) hl2;obtain⟨Y,hY⟩:∃Y,X/16^^^H=Y:=⟨_,rfl⟩;rw[hY]at hst hx2 hl3;have hh2:=fun W=>Je W Y hl3;have hl4:=NQ Y;obtain⟨G,hG⟩:∃G,hN Y=G:=⟨_,rfl⟩;rw[hG]at hst hl4;simp only[hG]at hh2;have hx3:bits .xor .u32 ((Y:Int)/16) (G:Int)=((Y/16^^^G:Nat):Int):=by have h:=u32_xor_nat (Y/16) G (by omega) hl4;simpa using h
   obtain⟨Z,hZ⟩:∃Z,Y/16^^^G=Z:=⟨_,rfl⟩;rw[hZ]at hst hx3;have HST:=ah hst;have HH1:=ah hh1;have Gw:=ah hh2;clear hst hW hget hX hH hY hG hZ hh1 hh2 hl1 hl2 hl3 hl4 hlt;go_wp2_with fail;refine(HH1.out _).mono ?_;rintro e w1 ⟨rfl,hk⟩;have gB:=ah (HK.out.then hk);clear hk;go_wp2_with fail;refine(Gw.out _).mono ?_;rintro e w2 ⟨rfl,hk⟩;have aV:=ah (gB.out.then hk);clear hk;go_wp2;go_roundw
   case rel=>exact⟨i+1,by omega,by go_num,by rw[HST.out],aV.out⟩
   case measure=>simp[RowKit.intOf];omega
  ·obtain rfl:i=s.size:=by omega
   have htk:s.data.toList.take s.size=s.data.toList:=List.take_of_length_le (Nat.le_of_eq Array.length_toList);have hx1:bits .xor .u32 IntKind.u32.max ((runN s.data.toList:Nat):Int)=((ug s.data.toList:Nat):Int):=u32_xor_nat 4294967295 (runN s.data.toList) (by decide) (KE _);rw[htk];rw[HR.out]at hx1;clear htk;go_wp2;go_ret;exact⟨rfl,HK.out⟩
end Fr
namespace Fr
open Vn Ops
def mb(c i:Nat):Nat:=c/256^(3-i)%256
def qJ(c:Nat):List UInt8:=[UInt8.ofNat (mb c 0),UInt8.ofNat (mb c 1),UInt8.ofNat (mb c 2),UInt8.ofNat (mb c 3)]
def aU(c i:Nat):Array Value:=#[.int .u8 (if 0<i then mb c 0 else 0:Nat),.int .u8 (if 1<i then mb c 1 else 0:Nat),.int .u8 (if 2<i then mb c 2 else 0:Nat),.int .u8 (if 3<i then mb c 3 else 0:Nat)]
theorem OX(w:World)(c:Nat)(hc:c<4294967296):Calls Tryz.prog 209 #[.int .u32 (c:Int)] w fun e w'=>e=.returned (.string (bI (qJ c)))/\Kept aj w w':=by
 go_enter Tryz.func209,Tryz.ntmps209;go_wp2_with fail;have hn0:=Has.new w 317 #[.int .u8 0,.int .u8 0,.int .u8 0,.int .u8 0];have HN:=ah hn0;clear hn0;go_loopw [4,5] (fun _ v5 wr=>∃i:Nat,i<=4/\v5=.int .i64 i/\Has wr w.heap.size 317 (aU c i)/\Kept aj w wr) (fun _ v5 _=>4-(RowKit.intOf v5).toNat)
 case atStart=>exact⟨0,Nat.zero_le _,rfl,HN.out,by(repeat'(first|(with_reducible first|exact ak|apply au|apply ay|apply aA|apply aB)|(right;simp;done)))⟩
 case round=>
  obtain⟨i,hi,rfl,hh,hk⟩:=hrel;have HK:=ah hk;have HH:=ah hh;clear hk hh;by_cases hi4:i<4
  ·have ahB:i=0\/i=1\/i=2\/i=3:=by omega
   rcases ahB with rfl|rfl|rfl|rfl
   ·have h0:=HH.out.cell 0;have f0:=HH.out.frozen 0;simp only[aU,lF0,List.getElem?_cons_zero]at h0;have e0:(c:Int)/16777216=((mb c 0:Nat):Int):=by show _=((c/16777216%256:Nat):Int);omega
    go_wp2_with fail;refine⟨⟨1,by omega,rfl,?_,HK.out.put (.inr (Nat.le_refl _))⟩,by simp[RowKit.intOf]⟩;exact HH.out.dH rfl
   ·have h0:=HH.out.cell 1;have f0:=HH.out.frozen 1;simp only[aU,lF0,List.getElem?_cons_zero,List.getElem?_cons_succ]at h0;have e0:(c:Int)/65536%256=((mb c 1:Nat):Int):=by show _=((c/65536%256:Nat):Int);omega
    go_wp2_with fail;refine⟨⟨2,by omega,rfl,?_,HK.out.put (.inr (Nat.le_refl _))⟩,by simp[RowKit.intOf]⟩;exact HH.out.dH rfl
   ·have h0:=HH.out.cell 2;have f0:=HH.out.frozen 2;simp only[aU,lF0,List.getElem?_cons_zero,List.getElem?_cons_succ]at h0;have e0:(c:Int)/256%256=((mb c 2:Nat):Int):=by show _=((c/256%256:Nat):Int);omega
    go_wp2_with fail;refine⟨⟨3,by omega,rfl,?_,HK.out.put (.inr (Nat.le_refl _))⟩,by simp[RowKit.intOf]⟩;exact HH.out.dH rfl
   ·have h0:=HH.out.cell 3;have f0:=HH.out.frozen 3;simp only[aU,lF0,List.getElem?_cons_zero,List.getElem?_cons_succ]at h0;have e0:(c:Int)%256=((mb c 3:Nat):Int):=by show _=((c/1%256:Nat):Int);omega
    go_wp2_with fail;refine⟨⟨4,by omega,rfl,?_,HK.out.put (.inr (Nat.le_refl _))⟩,by simp[RowKit.intOf]⟩;exact HH.out.dH rfl
  ·obtain rfl:i=4:=by omega
   have hcv:=Oh wr w.heap.size (qJ c) 4 (fun j x hx=>by
    have hj:j<4:=(lD0.1 hx).1;have hm:∀j,mb c j<256:=fun j=>Nat.mod_lt _ (by decide);have hx':x=UInt8.ofNat (mb c j):=by
     have:j=0\/j=1\/j=2\/j=3:=by omega
     rcases this with rfl|rfl|rfl|rfl<;>(simp[qJ]at hx;exact hx.symm)
    have hxn:(x.toNat:Int)=((mb c j:Nat):Int):=by rw[hx'];have:=hm j;simp only[UInt8.toNat_ofNat'];rw[Nat.mod_eq_of_lt (by simpa using this)]
    rw[HH.out.cell j,hxn];have:j=0\/j=1\/j=2\/j=3:=by omega
    rcases this with rfl|rfl|rfl|rfl<;>rfl)
   rw[show(qJ c).length=4 from rfl]at hcv;go_wp2_with fail;go_ret;exact⟨rfl,HK.out⟩
end Fr
namespace Fr
open Vn Ops
theorem nI(l:List UInt8):(bI l).size=l.length:=by simp[bI,ByteArray.size]
def bM(s:List UInt8):List UInt8:=put s.length++qJ (ug (put s.length++s))++s
theorem abo(w:World)(s:ByteArray)(hs:s.size<=65536):Calls Tryz.prog 188 #[.string s] w fun e w'=>e=.returned (.tuple #[.string (bI (bM (bl s))),.int .i64 0])/\Kept aj w w':=by
 have hn:¬(65536:Int)<(s.size:Int):=by omega
 have hp:=fun W=>yS s.size (by omega) W;have hl:(bl s).length=s.size:=bP s;obtain⟨p,hp2⟩:∃p,put s.size=p:=⟨_,rfl⟩;have hpl:p.length<=9:=by rw[<-hp2];exact nD (by omega)
 have hpz:(bI p).size=p.length:=nI p;have hsum:=fun W=>sum_any W (bI p++s) (by rw[ByteArray.size_append];omega);have hd:(bI p++s).data.toList=p++bl s:=by simp[bI]
 rw[hd]at hsum;have hfr:bM (bl s)=p++qJ (ug (p++bl s))++bl s:=by unfold bM;rw[hl,hp2]
 have hmk:=fun W=>OX W (ug (p++bl s)) (TF _);obtain⟨S,hS⟩:∃S,ug (p++bl s)=S:=⟨_,rfl⟩;simp only[hS]at hsum hmk hfr;simp only[hp2]at hp;have U7:bI (p++qJ S++bl s)=bI p++bI (qJ S)++s:=by apply ByteArray.ext;simp[bI]
 rw[hfr,U7];have HP:=ah hp;have HS:=ah hsum;have HM:=ah hmk;clear hp hsum hmk hS hfr U7 hd hl hp2;have q1:¬9223372036854775807<(bI p).size+s.size:=by omega
 have q2:¬9223372036854775807<(bI p).size+(bI (qJ S)).size:=by rw[nI (qJ S)];show¬_<_+4;omega
 have q3:¬9223372036854775807<(bI p++bI (qJ S)).size+s.size:=by rw[ByteArray.size_append,nI (qJ S)];show¬_<_+4+_;omega
 clear hpz;go_enter Tryz.func188,Tryz.ntmps188;go_wp2_with fail;refine(HP.out _).mono ?_;rintro e w1 ⟨rfl,hk⟩;have gB:=ah hk;clear hk;go_wp2_with fail;refine(HS.out _).mono ?_;rintro e w2 ⟨rfl,hk⟩;have aV:=ah (gB.out.then hk);clear hk;go_wp2_with fail;refine(HM.out _).mono ?_;rintro e w3 ⟨rfl,hk⟩;have bu:=ah (aV.out.then hk);clear hk;go_wp2;go_ret2;exact⟨rfl,bu.out⟩
end Fr
namespace Vn
open Ops (bI bl)
def Hy:Except Nat (Nat×Nat)->Value
 | .ok (n,j)=> .tuple #[.int .u64 n,.int .i64 j,.int .i64 0]
 | .error c=> .tuple #[.int .u64 0,.int .i64 0,.int .i64 c]
theorem Jf(s:ByteArray)(i:Nat)(h:i<s.size):(bl s)[i]? =some s[i]:=by
 have h':i<s.data.toList.length:=by simpa using h
 show s.data.toList[i]? =_;rw[lB0 h'];rfl
theorem aej(s:ByteArray):get (bl s) s.size=.error 2:=by unfold get;rw[List.getElem?_eq_none (by rw[Ops.bP];exact Nat.le_refl _)]
theorem Ya(s:ByteArray)(i:Nat)(h:i<s.size)(hb:s[i].toNat<248):get (bl s) i=.ok (s[i].toNat,i+1):=by unfold get;rw[Jf s i h];simp only[if_pos hb]
theorem Yb(s:ByteArray)(i:Nat)(h:i<s.size)(hb:¬s[i].toNat<248)(hk:s.size-(i+1)<s[i].toNat-247):get (bl s) i=.error 2:=by unfold get;rw[Jf s i h];simp only[if_neg hb];rw[if_pos (by rw[List.length_take,List.length_drop,Ops.bP];omega)]
theorem abp(s:ByteArray)(i k:Nat)(h:i<s.size)(hb:¬s[i].toNat<248)(hk:s[i].toNat-247=k)(hl:k<=s.size-(i+1)):
  get (bl s) i=if val ((((bl s).drop (i+1)).take k).map UInt8.toNat)<248\/needs (val ((((bl s).drop (i+1)).take k).map UInt8.toNat))≠k then .error 4 else .ok (val ((((bl s).drop (i+1)).take k).map UInt8.toNat),i+1+k):=by
 unfold get;rw[Jf s i h];simp only[if_neg hb,hk];rw[if_neg (by rw[List.length_take,List.length_drop,Ops.bP];omega)]
def numAt(s:ByteArray)(i j:Nat):Nat:=val ((((bl s).drop (i+1)).take j).map UInt8.toNat)
theorem U8(s:ByteArray)(i j:Nat)(h:i+1+j<s.size):numAt s i (j+1)=numAt s i j*256+s[i+1+j].toNat:=by unfold numAt;rw[List.take_add_one,List.getElem?_drop,Jf s _ h,List.map_append];exact Cj _ _
theorem OY(s:ByteArray)(i j:Nat):numAt s i j<256^j:=by unfold numAt;refine Nat.lt_of_lt_of_le (Xb _ (yQ _)) (Nat.pow_le_pow_right (by decide) ?_);rw[List.length_map,List.length_take];exact Nat.min_le_left _ _
theorem Yc(s:ByteArray)(i j:Nat)(h:j<8):numAt s i j<72057594037927936:=by
 have h1:=OY s i j;have h2:(256:Nat)^j<=256^7:=Nat.pow_le_pow_right (by decide) (by omega);have e:(256:Nat)^7=72057594037927936:=by decide
 omega
theorem Yd(s:ByteArray)(i j:Nat)(h:j<=8):numAt s i j<18446744073709551616:=by
 have h1:=OY s i j;have h2:(256:Nat)^j<=256^8:=Nat.pow_le_pow_right (by decide) (by omega);have e:(256:Nat)^8=18446744073709551616:=by decide
 omega
theorem aek(m x:Nat)(hm:m<72057594037927936)(hx:x<256):bits .or .u64 ((m:Int)*256) (x:Int)=(m:Int)*256+x:=
 bits_join .u64 64 (by decide) wraps_u64 8 _ _ (by omega) (by omega) (by omega) (by omega) (by omega) (by omega)
theorem ext_get(s:ByteArray)(i j:Nat)(h:i+1+j<s.size)(h':j<(s.extract (i+1) s.size).size):(s.extract (i+1) s.size)[j]=s[i+1+j]:=by rw[ByteArray.getElem_extract]
theorem CY(s:ByteArray)(i:Nat)(hi:i<=s.size)(hs:s.size<=maxLen)(w:World):Calls Tryz.prog 208 #[.string s,.int .i64 i] w fun e w'=>e=.returned (Hy (get (bl s) i))/\w=w':=by
 unfold maxLen at hs;by_cases he:i=s.size
 ·subst he;rw[aej];go_enter Tryz.func208,Tryz.ntmps208;go_wp2;go_ret3;exact⟨rfl,rfl⟩
 have hil:i<s.size:=by omega
 have hne:((i:Int)==(s.size:Int))=false:=by rw[beq_eq_false_iff_ne];omega
 have h256:=UInt8.toNat_lt s[i];by_cases hb:s[i].toNat<248
 ·rw[Ya s i hil hb];have hb2:((s[i].toNat:Int)<248):=by omega
  clear he;go_enter Tryz.func208,Tryz.ntmps208;go_wp2;go_ret3;exact⟨rfl,rfl⟩
 have hb2:¬((s[i].toNat:Int)<248):=by omega
 obtain⟨k,hk⟩:∃k,s[i].toNat-247=k:=⟨_,rfl⟩;have hk8:k<=8:=by omega
 have hk1:1<=k:=by omega
 have hb3:(s[i].toNat:Int)-247=k:=by omega
 by_cases hsh:s.size-(i+1)<k
 ·rw[Yb s i hil hb (by omega)];obtain⟨x,hx⟩:∃x,s[i].toNat=x:=⟨_,rfl⟩;rw[hx]at h256 hb hb2 hk hb3;have hx2:(s[i].toNat:Int)=(x:Int):=by rw[hx]
  have HX:=ah hx;clear hx;clear he hk;obtain rfl:x=k+247:=by omega
  go_enter Tryz.func208,Tryz.ntmps208;go_wp2;go_ret3;exact⟨rfl,rfl⟩
 rw[abp s i k hil hb hk (by omega)];have hkl:k<=s.size-(i+1):=by omega
 have hnum:val ((((bl s).drop (i+1)).take k).map UInt8.toNat)=numAt s i k:=rfl;rw[hnum];obtain⟨G,hG⟩:∃G,(if numAt s i k<248\/needs (numAt s i k)≠k then Except.error 4 else Except.ok (numAt s i k,i+1+k):Except Nat (Nat×Nat))=G:=⟨_,rfl⟩;rw[hG];have Gx:=ah hG;clear hG;have hx2:(s[i].toNat:Int)=((k+247:Nat):Int):=by omega
 have hnn:¬s.size-(i+1)<k:=hsh;clear he hb hb2 hb3 hk h256 hnum;have Jg:=ah hnn;clear hnn hsh;have q1:decide ((i:Int)<0)=false:=decide_eq_false (by omega);have q2:decide (s.size<i)=false:=decide_eq_false (by omega);have q3:decide ((k:Int)+247<248)=false:=decide_eq_false (by omega);go_enter Tryz.func208,Tryz.ntmps208;go_wp2;go_loop [9,50] (fun v9 v50=>∃j:Nat,j<=k/\v50=.int .i64 j/\v9=.int .u64 (numAt s i j)) (fun _ v50=>k-(intOf v50).toNat)
 case atStart=>exact⟨0,Nat.zero_le _,rfl,rfl⟩
 case round=>
  obtain⟨j,hj,rfl,rfl⟩:=hrel;by_cases hjk:j<k
  ·have h7:=Yc s i j (by omega);obtain⟨m,hm⟩:∃m,numAt s i j=m:=⟨_,rfl⟩;have hxs:j<(s.extract (i+1) s.size).size:=by rw[ByteArray.size_extract];omega
   obtain⟨y,hy⟩:∃y,(s.extract (i+1) s.size)[j].toNat=y:=⟨_,rfl⟩;have ag4:y<256:=by rw[<-hy];exact UInt8.toNat_lt _
   have hs:=U8 s i j (by omega);rw[<-ext_get s i j (by omega) hxs,hy,hm]at hs;have HS:=ah hs;clear hs;rw[hm]at h7;rw[hm];have HM:=ah hm;clear hm;have hwr:IntKind.u64.wrap (y:Int)=y:=wraps_u64 _ (by omega) (by omega);have hor:=aek m y h7 ag4;go_wp2;go_round
   case rel=>exact⟨j+1,by omega,by go_num,by rw[HS.out];go_num⟩
   case measure=>simp[intOf];omega
  ·obtain rfl:j=k:=by omega
   have h8:=Yd s i j (by omega);obtain⟨m,hm⟩:∃m,numAt s i j=m:=⟨_,rfl⟩;rw[hm]at h8;rw[hm];have HM:=ah hm;clear hm;by_cases hb:m<248
   ·have hb2:decide ((m:Int)<248)=true:=decide_eq_true (by omega);have HB:=ah hb;clear hb;go_wp2;go_ret3;exact⟨by rw[<-Gx.out,HM.out,if_pos (.inl HB.out)];rfl,rfl⟩
   ·have hb2:decide ((m:Int)<248)=false:=decide_eq_false (by omega);have hnd:=IU m h8;obtain⟨r,hr⟩:∃r,needs m=r:=⟨_,rfl⟩;rw[hr]at hnd;have HND:=ah hnd;clear hnd;by_cases hrj:r=j
    ·subst hrj;have HB:=ah hb;clear hb;have HR:=ah hr;clear hr;go_wp2_with fail;refine(HND.out _).mono ?_;rintro e w2 ⟨rfl,rfl⟩;go_wp2;go_ret3;exact⟨by rw[<-Gx.out,HM.out,HR.out,if_neg (by have:=HB.out;simp;omega)];rfl,rfl⟩
    ·have hne:((r:Int) !=(j:Int))=true:=by simpa using fun e=>hrj (by omega)
     have OZ:=ah hrj;clear hrj;have HB:=ah hb;clear hb;have HR:=ah hr;clear hr;go_wp2_with fail;refine(HND.out _).mono ?_;rintro e w2 ⟨rfl,rfl⟩;go_wp2;go_ret3;exact⟨by rw[<-Gx.out,HM.out,HR.out,if_pos (.inr OZ.out)];rfl,rfl⟩
end Vn
namespace Fr
open Vn Ops
inductive lM
 |bad (e:Nat)
 |ok (t:List UInt8) (to:Nat)
def nextR(s:List UInt8)(i:Nat):lM:=
 match Vn.get s i with
 | .error e=> .bad e
 | .ok (n,j)=>if 65536<n then .bad 3 else if s.length<j+(4+n)then .bad 2 else
  if(s.drop j).take 4=qJ (ug ((s.drop i).take (j-i)++(s.drop (j+4)).take n))then .ok ((s.drop (j+4)).take n) (j+4+n)else .bad 9
def zW:lM->Value
 | .bad e=> .tuple #[.string ⟨#[]⟩,.int .i64 0,.int .i64 (e:Int)]
 | .ok t to=> .tuple #[.string (bI t),.int .i64 (to:Int),.int .i64 0]
theorem zX(s:List UInt8)(i:Nat):(∃e,Vn.get s i=.error e/\(e=2\/e=4))\/∃n j,Vn.get s i=.ok (n,j):=by
 unfold Vn.get;split
 ·exact .inl ⟨2,rfl,.inl rfl⟩
 ·split
  ·exact .inr ⟨_,_,rfl⟩
  ·dsimp only;split
   ·exact .inl ⟨2,rfl,.inl rfl⟩
   ·split
    ·exact .inl ⟨4,rfl,.inr rfl⟩
    ·exact .inr ⟨_,_,rfl⟩
theorem H7(s:ByteArray)(a b:Nat):(s.extract a b).data.toList=((bl s).drop a).take (b-a):=by simp[bl,ByteArray.data_extract,List.extract_eq_take_drop]
theorem Ye(p q:ByteArray):(p.toList==q.toList)=decide (p=q):=by
 by_cases h:p=q
 ·subst h;simp
 ·have h2:p.data.toList≠q.data.toList:=fun e=>h (ByteArray.ext (Array.toList_inj.1 e));rw[decide_eq_false h];rw[ByteArray.toList_eq,ByteArray.toList_eq,beq_eq_false_iff_ne];exact h2
theorem next_any(w:World)(s:ByteArray)(i:Nat)(hi:i<=s.size)(hs:s.size<=1000000000):Calls Tryz.prog 128 #[.string s,.int .i64 i] w fun e w'=>e=.returned (zW (nextR (bl s) i))/\Kept aj w w':=by
 have hg:=fun W=>CY s i hi (by unfold maxLen;omega) W;unfold nextR;rcases zX (bl s) i with⟨e,he,Yf⟩|⟨n,j,hnj⟩
 ·rw[he];rw[he]at hg;unfold Hy at hg;dsimp only at hg⊢;have HG:=ah hg;clear hg he;rcases Yf with rfl|rfl
  all_goals
   go_enter Tryz.func128,Tryz.ntmps128
   go_wp2_with fail
   refine(HG.out _).mono ?_
   rintro e w1 ⟨rfl,rfl⟩
   go_wp2
   go_ret3
   exact⟨rfl,Kept.refl _ _⟩
 ·rw[hnj];rw[hnj]at hg;unfold Hy at hg;dsimp only at hg⊢;obtain⟨hij,hjs,aiO,_⟩:=yN hnj;rw[bP]at hjs;have HG:=ah hg;clear hg hnj;by_cases h1:65536<n
  ·rw[if_pos h1];have h1':(65536:Int)<(n:Int):=by omega
   clear h1;go_enter Tryz.func128,Tryz.ntmps128;go_wp2_with fail;refine(HG.out _).mono ?_;rintro e w1 ⟨rfl,rfl⟩;go_wp2;go_ret3;exact⟨rfl,Kept.refl _ _⟩
  rw[if_neg h1,bP];have h1':¬(65536:Int)<(n:Int):=by omega
  by_cases h2:s.size<j+(4+n)
  ·rw[if_pos h2];have h2':(s.size:Int)-(j:Int)<4+(n:Int):=by omega
   clear h1 h2;go_enter Tryz.func128,Tryz.ntmps128;go_wp2_with fail;refine(HG.out _).mono ?_;rintro e w1 ⟨rfl,rfl⟩;go_wp2;go_ret3;exact⟨rfl,Kept.refl _ _⟩
  rw[if_neg h2];have h2':¬(s.size:Int)-(j:Int)<4+(n:Int):=by omega
  have hd1:=H7 s j (j+4);have hd2:=H7 s i j;have hd3:=H7 s (j+4) (j+4+n);rw[show j+4-j=4 by omega]at hd1;rw[show j+4+n-(j+4)=n by omega]at hd3;have hsz2:(s.extract i j).size=j-i:=by rw[ByteArray.size_extract];omega
  have hsz3:(s.extract (j+4) (j+4+n)).size=n:=by rw[ByteArray.size_extract];omega
  have hsum:=fun W=>sum_any W (s.extract i j++s.extract (j+4) (j+4+n)) (by rw[ByteArray.size_append,hsz2,hsz3];omega);rw[show(s.extract i j++s.extract (j+4) (j+4+n)).data.toList=((bl s).drop i).take (j-i)++((bl s).drop (j+4)).take n by rw[<-hd2,<-hd3];simp]at hsum;have hmk:=fun W=>OX W (ug (((bl s).drop i).take (j-i)++((bl s).drop (j+4)).take n)) (TF _);obtain⟨S,hS⟩:∃S,ug (((bl s).drop i).take (j-i)++((bl s).drop (j+4)).take n)=S:=⟨_,rfl⟩;simp only[hS]at hsum hmk;rw[hS];have U7:¬9223372036854775807<(s.extract i j).size+(s.extract (j+4) (j+4+n)).size:=by rw[hsz2,hsz3];omega
  have ht:bI (((bl s).drop (j+4)).take n)=s.extract (j+4) (j+4+n):=by rw[<-hd3];exact yR _
  have hcmp:((bl s).drop j).take 4=qJ S↔s.extract j (j+4)=bI (qJ S):=by
   rw[<-hd1];constructor
   ·intro h;rw[<-h];exact(yR _).symm
   ·intro h;rw[h];exact jq _
  have heq:((s.extract j (j+4)).toList==(bI (qJ S)).toList)=decide (s.extract j (j+4)=bI (qJ S)):=Ye _ _;obtain⟨v,hv⟩:∃v,decide (s.extract j (j+4)=bI (qJ S))=v:=⟨_,rfl⟩;rw[hv]at heq;have hres:zW (if((bl s).drop j).take 4=qJ S then .ok (((bl s).drop (j+4)).take n) (j+4+n)else .bad 9)=(if v=true then .tuple #[.string (s.extract (j+4) (j+4+n)),.int .i64 ((j:Int)+4+n),.int .i64 0]else .tuple #[.string ⟨#[]⟩,.int .i64 0,.int .i64 9]):=by
   by_cases hc:s.extract j (j+4)=bI (qJ S)
   ·rw[if_pos (hcmp.2 hc),<-hv,if_pos (decide_eq_true hc)];show Value.tuple #[.string (bI (((bl s).drop (j+4)).take n)),.int .i64 ((j+4+n:Nat):Int),.int .i64 0]=_;rw[ht,show((j+4+n:Nat):Int)=(j:Int)+4+n by omega]
   ·rw[if_neg (fun h=>hc (hcmp.1 h)),<-hv,if_neg (by rw[decide_eq_false hc];decide)];rfl
  rw[hres];obtain⟨E1,hE1⟩:∃E1,s.extract i j=E1:=⟨_,rfl⟩;obtain⟨E3,hE3⟩:∃E3,s.extract (j+4) (j+4+n)=E3:=⟨_,rfl⟩;rw[hE1,hE3]at U7;simp only[hE1,hE3]at hsum;rw[hE3];have HS:=ah hsum;have HM:=ah hmk;have HV:=ah hv;clear hsum hmk hres hcmp hv ht hd1 hd2 hd3 hS hsz2 hsz3 h1 h2;have b1:(j:Int)+4<=(s.size:Int):=by omega
  have b2:(j:Int)+4+(n:Int)<=(s.size:Int):=by omega
  have b3:((j:Int)+4).toNat=j+4:=by omega
  have b4:((j:Int)+4+(n:Int)).toNat=j+4+n:=by omega
  have b5:(j:Int)<=(s.size:Int):=by omega
  have b6:(i:Int)<=(j:Int):=by omega
  have b7:(j:Int)<=(j:Int)+4:=by omega
  have b8:(j:Int)+4<=(j:Int)+4+(n:Int):=by omega
  have b9:(0:Int)<=(j:Int)+4:=by omega
  have b10:(0:Int)<=(j:Int)+4+(n:Int):=by omega
  have b11:(0:Int)<=(j:Int):=by omega
  have b12:(0:Int)<=(i:Int):=by omega
  go_enter Tryz.func128,Tryz.ntmps128;go_wp2_with fail;refine(HG.out _).mono ?_;rintro e w1 ⟨rfl,rfl⟩;go_wp2_with fail;have HW:=ah (Kept.refl aj w)
  go_region_held3 (fun _=>True) (trivial)
   (first
    |(go_at_call 210;((with_reducible refine(HS.out _).mono ?_);rintro e w2 ⟨rfl,hk0⟩;have hk:=Kept.then (F:=aj) (a:=w) (by(repeat'(first|(with_reducible first|exact ak|apply au|apply ay|apply aA|apply aB)|(exact HW.out)|(right;simp;done)))) hk0;clear HW hk0;have HW:=ah hk;clear hk))
    |(go_at_call 209;((with_reducible refine(HM.out _).mono ?_);rintro e w3 ⟨rfl,hk0⟩;have hk:=Kept.then (F:=aj) (a:=w) (by(repeat'(first|(with_reducible first|exact ak|apply au|apply ay|apply aA|apply aB)|(exact HW.out)|(right;simp;done)))) hk0;clear HW hk0;have HW:=ah hk;clear hk)))
  all_goals
   cases v
   all_goals
    go_wp2
    go_ret3
    refine⟨?_,HW.out⟩
    first|rfl|(rw[if_neg (by decide)];rfl)|(rw[if_pos rfl];rfl)
end Fr
end Go.Proofs.YtomccaocggplgaaGreat
namespace Go.Proofs.YtomccaocggplgaaGreat
open Go.RowKit Go.Shelf
attribute [local go_sem] Oper.semAt_some
namespace Fr
open Vn Ops
def fJ(s:List UInt8):Nat->Nat->List lM
 |0,_=>[]
 |fuel+1,i=>if s.length<=i then []else match nextR s i with
  | .bad e=>[.bad e]
  | .ok t to=> .ok t to::fJ s fuel to
def aY(s:List UInt8):List lM:=fJ s (s.length+1) 0
theorem CZ{s:List UInt8}{i to:Nat}{t:List UInt8}(h:nextR s i=.ok t to):i<to/\to<=s.length:=by
 unfold nextR at h;rcases zX s i with⟨e,he,_⟩|⟨n,j,hj⟩
 ·rw[he]at h;cases h
 ·rw[hj]at h;obtain⟨h1,h2,_⟩:=yN hj;dsimp only at h;split at h
  ·cases h
  ·split at h
   ·cases h
   ·split at h
    ·injection h with h3 h4;omega
    ·cases h
def qw(e:Nat):Nat:=if e=0 then 2 else e
theorem O1(e:Nat):qw e≠0:=by unfold qw;split<;>omega
theorem O4{e:Nat}(h:e≠0):qw e=e:=if_neg h
def tN:lM->Value
 | .bad e=> .agg #[.string ⟨#[]⟩,.int .i64 0,.int .i64 (qw e:Int)]
 | .ok t to=> .agg #[.string (bI t),.int .i64 (to:Int),.int .i64 0]
theorem BO{n:Nat}{P:Program}{a:Act}{w:World}{Q:Exit->Act->World->Prop}{c rest:Code}(l:Nat)(J:Act->World->Prop)(μ:Act->World->Nat)(hf:findLabel c l=some rest)
  (first:c.wpIn Fence.wide n P (Exit.jump l J Q) a w)
  (pass:∀a w,J a w->rest.wpIn Fence.wide n P (Exit.jump l (fun a' w'=>J a' w'/\μ a' w'<μ a w) Q) a w):(Code.scope c).wpIn Fence.wide n P Q a w:=
 wpIn_wide.2 (wp_scope_jumps l J μ hf (wpIn_wide.1 first) fun a w h=>wpIn_wide.1 (pass a w h))
theorem rE{l:Nat}{J:Act->World->Prop}{Q:Exit->Act->World->Prop}{a:Act}{w:World}:Exit.jump l J Q .ret a w=Q .ret a w:=rfl
def NR(a:Act):Int:=intOf (a.tmps.getD 3 undef)
structure KB(Bn:Nat)(A B:World):Prop where
 size:A.heap.size<=B.heap.size
 block:Bn<A.heap.size->B.heap[Bn]? =A.heap[Bn]?
theorem KB.refl(Bn:Nat)(A:World):KB Bn A A:=⟨Nat.le_refl _,fun _=>rfl⟩
theorem KB.trans{Bn:Nat}{A B C:World}(h:KB Bn A B)(k:KB Bn B C):KB Bn A C:=⟨Nat.le_trans h.size k.size,fun hl=>(k.block (Nat.lt_of_lt_of_le hl h.size)).trans (h.block hl)⟩
theorem KB.rX{Bn:Nat}{A B:World}(h:Kept aj A B):KB Bn A B:=⟨h.size,fun hl=>h.block Bn hl (fun z=>z)⟩
theorem KB.cell{Bn:Nat}{A B:World}(h:KB Bn A B)(hl:Bn<A.heap.size)(i:Nat):B.cell? ⟨Bn,i,none⟩=A.cell? ⟨Bn,i,none⟩:=World.cell?_of_block (h.block hl)
theorem KB.put{Bn:Nat}{w:World}(hl:Bn<w.heap.size)(W:World)(l:Nat)(o o':Obj)(h:w.heap.size<=l)(_:W.heap[l]? =some o)(_:o.isCells=false)(_:o.isWalk=false):KB Bn W (W.putObj l o'):=
 ⟨Nat.le_of_eq (by simp[World.putObj]),fun _=>World.putObj_heap_other (by omega)⟩
theorem EG{s:List UInt8}{i e:Nat}(h:nextR s i=.bad e):e≠0:=by
 unfold nextR at h;rcases zX s i with⟨e',he,Yf⟩|⟨n,j,hj⟩
 ·rw[he]at h;injection h with h;omega
 ·rw[hj]at h;dsimp only at h;split at h
  ·injection h with h;omega
  ·split at h
   ·injection h with h;omega
   ·split at h
    ·cases h
    ·injection h with h;omega
theorem U9(n:Nat)(hn:1<=n)(l Bn:Nat)(s:ByteArray)(hs:s.size<=1000000000)(J Jx:List lM->World->Prop)(W:World)(hBn:W.cell? ⟨Bn,0,none⟩=some (.string s))(hlow:Bn<W.heap.size)
  (hA:∀pre A B,J pre A->Kept aj A B->J pre B)
  (hY:∀pre x W,J pre W->pre.length<(aY (bl s)).length->YieldAt Fence.wide (n-1) Tryz.prog l #[tN x] W fun e W'=>
   (e=.returned (.bool true)/\J (pre++[x]) W'/\KB Bn W W')\/(e=.returned (.bool false)/\Jx (pre++[x]) W'))
  (h0:J [] W):
  CallsIn Fence.wide n Tryz.prog 246 #[.func (.yield l) #[] #[],.pointer (some ⟨Bn,0,none⟩)] W fun e W'=>(∃v,e=.returned v)/\
   ((∃ys,ys=aY (bl s)/\J ys W')\/(∃pre,pre<+:aY (bl s)/\Jx pre W')):=by
 have hfn:∀k,Fence.wide.fn k:=fun _=>trivial;have HA:=ah hA;have HY:=ah hY;have XJ:=ah hBn;clear hA hY;refine callsIn_of_wp Tryz.func246 rfl trivial ?_ rfl;simp only[Tryz.ntmps246,List.size_toArray,List.length_cons,List.length_nil,Nat.reduceAdd,Nat.reduceSub,Array.replicate_succ,Array.replicate_zero,List.push_toArray,List.append_toArray,List.nil_append,List.cons_append];gi_wp2;refine BO 0 (fun a' wr=>∃(i fuel:Nat) (pre:List lM) (u4 u5 u6 u7 u8 u9 u10 u11 u12 u13 u14 u15 u16 u17 u18 u19 u20 u21 u22 u23 u24 u25 u26 u27 u28 u29:Value),a'={tmps:=#[.func (.yield l) #[] #[],.pointer (some ⟨Bn,0,none⟩),undef,.int .i64 (i:Int),u4,u5,u6,u7,u8,u9,u10,u11,u12,u13,u14,u15,u16,u17,u18,u19,u20,u21,u22,u23,u24,u25,u26,u27,u28,u29],defers:=[]}/\i<=s.size/\s.size<i+(fuel+1)/\J pre wr/\KB Bn W wr/\aY (bl s)=pre++fJ (bl s) (fuel+1) i) (fun a' _=>s.size-(NR a').toNat) rfl ?first ?pass
 case first=>
  obtain⟨fuel,hfuel⟩:∃fuel,fuel=s.size:=⟨_,rfl⟩;obtain⟨pre,hpre⟩:∃pre:List lM,pre=[]:=⟨_,rfl⟩;have hfl:aY (bl s)=pre++fJ (bl s) (fuel+1) 0:=by rw[hpre,hfuel];unfold aY;rw[bP];rfl
  have HF:=ah hfl;have HJ:Hid (J pre W):=ah (by rw[hpre];exact h0);have HB:=ah (KB.refl Bn W);have c0:=hBn;clear hfl h0 hpre hBn;gi_wp2;refine wpIn_label ?_;by_cases hil:s.size<=0
  ·have abq:(s.size:Int)<=(0:Int):=by omega
   have hemp:(s=ByteArray.empty)=True:=eq_true (ByteArray.ext (Array.eq_empty_of_size_eq_zero (Nat.le_zero.1 hil)));have hnil:fJ (bl s) (fuel+1) 0=[]:=by rw[fJ,if_pos (by rw[bP];exact hil)]
   have abr:=ah hnil;clear hnil;gi_wp2;rw[rE];refine bodyPost_ret (results_none rfl _ _ _) rfl ?_;exact⟨⟨_,rfl⟩,.inl ⟨_,by rw[HF.out,abr.out,List.append_nil],HJ.out⟩⟩
  ·have abq:¬(s.size:Int)<=(0:Int):=by omega
   have hemp:(s=ByteArray.empty)=False:=eq_false (fun e=>by rw[e]at hil;exact hil (Nat.le_refl _));have hnx:=fun W=>next_any W s 0 (by omega) hs;rcases hR:nextR (bl s) 0 with e0|⟨t,to⟩
   ·have hcons:fJ (bl s) (fuel+1) 0=[.bad e0]:=by rw[fJ,if_neg (by rw[bP];exact hil),hR]
    have hfl:=HF.out;rw[hcons]at hfl;have hlen:pre.length<(aY (bl s)).length:=by rw[hfl,lA0];simp
    rw[hR]at hnx;have he0:e0≠0:=EG hR;have he1:((e0:Int) !=0)=true:=by simpa using he0
    unfold zW at hnx;have HN:=ah hnx;have o7:=ah hfl;have lH:=ah hlen;have HE:=ah he1;have XK:=ah (O4 he0);clear hnx hR hcons hfl hlen hil he0 he1;gi_wp2_with (gi_at_call 128;(refine(callsIn_wide.2 (HN.out _)).mono ?_;rintro e w2 ⟨rfl,hk⟩;have HJ2:=ah (HA.out _ _ _ HJ.out hk);have HB2:=ah (HB.out.trans (KB.rX hk));clear hk;obtain⟨fn,tmps,assign,body,hy,hR⟩:=HY.out pre (.bad e0) w2 HJ2.out lH.out;simp only[tN,XK.out]at hy));refine hR.mono ?_;rintro e W3 (⟨rfl,hJ3,hk3⟩|⟨rfl,hJx3⟩)
    ·have Jh:=ah hJ3;clear hJ3 hk3;have he1:=HE.out;gi_wp2;rw[rE];refine bodyPost_ret (results_none rfl _ _ _) rfl ?_;exact⟨⟨_,rfl⟩,.inl ⟨_,o7.out.symm,Jh.out⟩⟩
    ·have C4:=ah hJx3;clear hJx3;gi_wp2;rw[rE];refine bodyPost_ret (results_none rfl _ _ _) rfl ?_;exact⟨⟨_,rfl⟩,.inr ⟨_,by rw[o7.out];exact List.prefix_refl _,C4.out⟩⟩
   ·have hcons:fJ (bl s) (fuel+1) 0=.ok t to::fJ (bl s) fuel to:=by rw[fJ,if_neg (by rw[bP];exact hil),hR]
    have hto:=CZ hR;rw[bP]at hto;have hfl:=HF.out;rw[hcons]at hfl;have hlen:pre.length<(aY (bl s)).length:=by rw[hfl,lA0];simp
    have EH:aY (bl s)=(pre++[.ok t to])++fJ (bl s) fuel to:=by rw[hfl];simp
    rw[hR]at hnx;unfold zW at hnx;have HN:=ah hnx;have o7:=ah EH;have lH:=ah hlen;clear hnx hR hcons hfl hlen hil EH;gi_wp2_with (gi_at_call 128;(refine(callsIn_wide.2 (HN.out _)).mono ?_;rintro e w2 ⟨rfl,hk⟩;have HJ2:=ah (HA.out _ _ _ HJ.out hk);have HB2:=ah (HB.out.trans (KB.rX hk));clear hk;obtain⟨fn,tmps,assign,body,hy,hR⟩:=HY.out pre (.ok t to) w2 HJ2.out lH.out;simp only[tN]at hy));refine hR.mono ?_;rintro e W3 (⟨rfl,hJ3,hk3⟩|⟨rfl,hJx3⟩)
    ·have Jh:=ah hJ3;have HB3:=ah (HB2.out.trans hk3);clear hJ3 hk3;gi_wp2;refine wpIn_goto ?_;exact⟨rfl,⟨to,fuel-1,pre++[.ok t to],_,_,_,_,_,_,_,_,_,_,_,_,_,_,_,_,_,_,_,_,_,_,_,_,_,_,rfl,by omega,by omega,Jh.out,HB3.out,by rw[show fuel-1+1=fuel by omega];exact o7.out⟩⟩
    ·have C4:=ah hJx3;clear hJx3;gi_wp2;rw[rE];refine bodyPost_ret (results_none rfl _ _ _) rfl ?_;exact⟨⟨_,rfl⟩,.inr ⟨_,by rw[o7.out];exact List.prefix_append _ _,C4.out⟩⟩
 case pass=>
  rintro a' wr ⟨i,fuel,pre,u4,u5,u6,u7,u8,u9,u10,u11,u12,u13,u14,u15,u16,u17,u18,u19,u20,u21,u22,u23,u24,u25,u26,u27,u28,u29,rfl,hi,hfu,hJ,hB,hfl⟩;have c0:wr.cell? ⟨Bn,0,none⟩=some (.string s):=(hB.cell hlow 0).trans XJ.out;have HF:=ah hfl;have HJ:=ah hJ;have HB:=ah hB;clear hfl hJ hB h0 hBn;by_cases hil:s.size<=i
  ·have abq:(s.size:Int)<=(i:Int):=by omega
   skip;have hnil:fJ (bl s) (fuel+1) i=[]:=by rw[fJ,if_pos (by rw[bP];exact hil)]
   have abr:=ah hnil;clear hnil;gi_wp2;rw[rE];refine bodyPost_ret (results_none rfl _ _ _) rfl ?_;exact⟨⟨_,rfl⟩,.inl ⟨_,by rw[HF.out,abr.out,List.append_nil],HJ.out⟩⟩
  ·have abq:¬(s.size:Int)<=(i:Int):=by omega
   skip;have hnx:=fun W=>next_any W s i (by omega) hs;rcases hR:nextR (bl s) i with e0|⟨t,to⟩
   ·have hcons:fJ (bl s) (fuel+1) i=[.bad e0]:=by rw[fJ,if_neg (by rw[bP];exact hil),hR]
    have hfl:=HF.out;rw[hcons]at hfl;have hlen:pre.length<(aY (bl s)).length:=by rw[hfl,lA0];simp
    rw[hR]at hnx;have he0:e0≠0:=EG hR;have he1:((e0:Int) !=0)=true:=by simpa using he0
    unfold zW at hnx;have HN:=ah hnx;have o7:=ah hfl;have lH:=ah hlen;have HE:=ah he1;have XK:=ah (O4 he0);clear hnx hR hcons hfl hlen hil he0 he1;gi_wp2_with (gi_at_call 128;(refine(callsIn_wide.2 (HN.out _)).mono ?_;rintro e w2 ⟨rfl,hk⟩;have HJ2:=ah (HA.out _ _ _ HJ.out hk);have HB2:=ah (HB.out.trans (KB.rX hk));clear hk;obtain⟨fn,tmps,assign,body,hy,hR⟩:=HY.out pre (.bad e0) w2 HJ2.out lH.out;simp only[tN,XK.out]at hy));refine hR.mono ?_;rintro e W3 (⟨rfl,hJ3,hk3⟩|⟨rfl,hJx3⟩)
    ·have Jh:=ah hJ3;clear hJ3 hk3;have he1:=HE.out;gi_wp2;rw[rE];refine bodyPost_ret (results_none rfl _ _ _) rfl ?_;exact⟨⟨_,rfl⟩,.inl ⟨_,o7.out.symm,Jh.out⟩⟩
    ·have C4:=ah hJx3;clear hJx3;gi_wp2;rw[rE];refine bodyPost_ret (results_none rfl _ _ _) rfl ?_;exact⟨⟨_,rfl⟩,.inr ⟨_,by rw[o7.out];exact List.prefix_refl _,C4.out⟩⟩
   ·have hcons:fJ (bl s) (fuel+1) i=.ok t to::fJ (bl s) fuel to:=by rw[fJ,if_neg (by rw[bP];exact hil),hR]
    have hto:=CZ hR;rw[bP]at hto;have hfl:=HF.out;rw[hcons]at hfl;have hlen:pre.length<(aY (bl s)).length:=by rw[hfl,lA0];simp
    have EH:aY (bl s)=(pre++[.ok t to])++fJ (bl s) fuel to:=by rw[hfl];simp
    rw[hR]at hnx;unfold zW at hnx;have HN:=ah hnx;have o7:=ah EH;have lH:=ah hlen;clear hnx hR hcons hfl hlen hil EH;gi_wp2_with (gi_at_call 128;(refine(callsIn_wide.2 (HN.out _)).mono ?_;rintro e w2 ⟨rfl,hk⟩;have HJ2:=ah (HA.out _ _ _ HJ.out hk);have HB2:=ah (HB.out.trans (KB.rX hk));clear hk;obtain⟨fn,tmps,assign,body,hy,hR⟩:=HY.out pre (.ok t to) w2 HJ2.out lH.out;simp only[tN]at hy));refine hR.mono ?_;rintro e W3 (⟨rfl,hJ3,hk3⟩|⟨rfl,hJx3⟩)
    ·have Jh:=ah hJ3;have HB3:=ah (HB2.out.trans hk3);clear hJ3 hk3;gi_wp2;refine wpIn_goto ?_;refine⟨rfl,⟨to,fuel-1,pre++[.ok t to],_,_,_,_,_,_,_,_,_,_,_,_,_,_,_,_,_,_,_,_,_,_,_,_,_,_,rfl,by omega,by omega,Jh.out,HB3.out,by rw[show fuel-1+1=fuel by omega];exact o7.out⟩,?_⟩;show(s.size-(NR _).toNat)<(s.size-(NR _).toNat);simp[NR,intOf];omega
    ·have C4:=ah hJx3;clear hJx3;gi_wp2;rw[rE];refine bodyPost_ret (results_none rfl _ _ _) rfl ?_;exact⟨⟨_,rfl⟩,.inr ⟨_,by rw[o7.out];exact List.prefix_append _ _,C4.out⟩⟩
end Fr
end Go.Proofs.YtomccaocggplgaaGreat
namespace Go.Proofs.YtomccaocggplgaaGreat
namespace Fr
open Vn Ops
theorem oN(t:List UInt8):(bM t).length=(put t.length).length+4+t.length:=by simp[bM,qJ];omega
theorem C5(pre t rest:List UInt8)(ht:t.length<=65536):nextR (pre++bM t++rest) pre.length=.ok t (pre.length+(bM t).length):=by
 have e:pre++bM t++rest=pre++put t.length++(qJ (ug (put t.length++t))++t++rest):=by simp[bM]
 have hg:=get_put pre (qJ (ug (put t.length++t))++t++rest) t.length (by omega);have hm:(qJ (ug (put t.length++t))).length=4:=rfl;rw[oN,e];generalize hp:put t.length=p at*
 generalize hmm:qJ (ug (p++t))=m at*
 unfold nextR;rw[hg];dsimp only;have d1:(pre++p++(m++t++rest)).drop (pre.length+p.length)=m++t++rest:=by rw[List.drop_append_of_le_length (by simp),List.drop_eq_nil_of_le (by simp)];rfl
 have d2:(pre++p++(m++t++rest)).drop pre.length=p++(m++t++rest):=by simp
 have d3:(pre++p++(m++t++rest)).drop (pre.length+p.length+4)=t++rest:=by rw[<-List.drop_drop,d1,<-hm];simp
 rw[if_neg (by omega),if_neg (by simp;omega),d1,d2,d3];have t1:(m++t++rest).take 4=m:=by rw[<-hm];simp
 have t2:(p++(m++t++rest)).take (pre.length+p.length-pre.length)=p:=by rw[Nat.add_sub_cancel_left];simp
 have t3:(t++rest).take t.length=t:=by simp
 rw[t1,t2,t3,hmm,if_pos rfl];congr 1;omega
theorem abt(pre p:List UInt8)(n:Nat)(h:n<18446744073709551616)(hp:p<+:put n)(hl:p.length<(put n).length):Vn.get (pre++p) pre.length=.error 2:=by
 have h8:=wY h;cases p with
 |nil=>unfold Vn.get;rw[List.append_nil,List.getElem?_eq_none (Nat.le_refl _)]
 |cons b p=>
  by_cases hs:n<248
  ·rw[qX hs]at hl;simp at hl
  ·rw[yM hs]at hp hl;have hk:=zK n;have hb:b=UInt8.ofNat (247+needs n):=by obtain⟨r,hr⟩:=hp;simp only[oK,List.map_cons,List.cons_append]at hr;exact(List.cons.inj hr).1
   have e2:b.toNat=247+needs n:=by rw[hb,UInt8.toNat_ofNat'];omega
   have hl2:p.length<needs n:=by simpa [oK,mF]using hl
   unfold Vn.get;rw[List.getElem?_append_right (Nat.le_refl _),Nat.sub_self];simp only[List.getElem?_cons_zero];rw[if_neg (by omega),if_pos (by simp;omega)]
theorem EI(pre q t:List UInt8)(ht:t.length<=65536)(hq:q<+:bM t)(hl:q.length<(bM t).length):nextR (pre++q) pre.length=.bad 2:=by
 by_cases hp:q.length<(put t.length).length
 ·have h1:q<+:put t.length:=List.prefix_of_prefix_length_le hq (by unfold bM;rw[List.append_assoc];exact List.prefix_append _ _) (by omega);unfold nextR;rw[abt pre q _ (by omega) h1 hp]
 ·have h1:put t.length<+:q:=List.prefix_of_prefix_length_le (by unfold bM;rw[List.append_assoc];exact List.prefix_append _ _) hq (by omega);obtain⟨r,rfl⟩:=h1;unfold nextR;rw[<-List.append_assoc,get_put pre r t.length (by omega)];dsimp only;rw[oN]at hl;rw[if_neg (by omega),if_pos (by simp at hl⊢;omega)]
def dY(ts:List (List UInt8)):List UInt8:=(ts.map bM).flatten
theorem NK(q t':List UInt8)(ht':t'.length<=65536)(hq:q<+:bM t')(hl:q.length<(bM t').length):∀(ts:List (List UInt8)) (pre:List UInt8) (fuel:Nat),(∀t∈ts,t.length<=65536)->ts.length+1<=fuel->
  ∃rs:List lM,fJ (pre++dY ts++q) fuel pre.length=rs++(if q=[]then []else [.bad 2])/\rs.map (fun| .ok t _=>some t| .bad _=>none)=ts.map some
 |[],pre,fuel,_,hf=>by
  obtain⟨fuel,rfl⟩:∃k,fuel=k+1:=⟨fuel-1,by simp at hf;omega⟩;refine⟨[],?_,rfl⟩;unfold fJ;by_cases h:q=[]
  ·subst h;simp[dY]
  ·have:0<q.length:=List.length_pos_iff.2 h;have e:pre++dY []++q=pre++q:=by simp[dY]
   rw[e,if_neg (by simp;omega),EI pre q t' ht' hq hl,if_neg h];rfl
 |t::ts,pre,fuel,hb,hf=>by
  obtain⟨fuel,rfl⟩:∃k,fuel=k+1:=⟨fuel-1,by simp at hf;omega⟩;obtain⟨rs,h1,h2⟩:=NK q t' ht' hq hl ts (pre++bM t) fuel (fun x hx=>hb x (by simp[hx])) (by simp at hf;omega);have e:pre++dY (t::ts)++q=pre++bM t++(dY ts++q):=by simp[dY]
  have e2:pre++bM t++dY ts++q=pre++bM t++(dY ts++q):=by simp
  rw[e2]at h1;refine⟨.ok t (pre.length+(bM t).length)::rs,?_,by simp[h2]⟩;rw[e];unfold fJ;have hpos:=oN t;rw[if_neg (by simp;omega),C5 pre t _ (hb t (by simp))];dsimp only;rw[lA0]at h1;rw[h1];rfl
def dF:List lM->List (List UInt8)
 | .ok t _::l=>t::dF l
 |_=>[]
def lN:Nat->List lM->Nat
 |_,.ok _ to::l=>lN to l
 |a,_=>a
def oV:List lM->Nat
 | .ok _ _::l=>oV l
 | .bad e::_=>qw e
 |[]=>0
def dn(l:List (List UInt8)):List Value:=l.map fun t=> .string (bI t)
def zY:List lM->Prop
 | .ok _ _::l=>zY l
 | .bad _::_=>False
 |[]=>True
theorem aft{pre:List lM}(h:zY pre)(t:List UInt8)(to:Nat):dF (pre++[.ok t to])=dF pre++[t]/\(∀a,lN a (pre++[.ok t to])=to)/\zY (pre++[.ok t to]):=by
 induction pre with
 |nil=>exact⟨rfl,fun _=>rfl,trivial⟩
 |cons x pre ih=>
  cases x with
  |bad e=>exact h.elim
  |ok t' Yg=>
   obtain⟨h1,h2,h3⟩:=ih h;exact⟨by show t'::dF (pre++_)=t'::dF pre++[t];rw[h1];rfl,fun a=>h2 Yg,h3⟩
theorem ael{p:List lM}(h:zY p)(e:Nat)(r:List lM):dF (p++ .bad e::r)=dF p/\(∀a,lN a (p++ .bad e::r)=lN a p)/\oV (p++ .bad e::r)=qw e:=by
 induction p with
 |nil=>exact⟨rfl,fun _=>rfl,rfl⟩
 |cons x p ih=>
  cases x with
  |bad e=>exact h.elim
  |ok t' Yg=>
   obtain⟨h1,h2,h3⟩:=ih h;exact⟨by show t'::dF (p++_)=t'::dF p;rw[h1],fun a=>h2 Yg,h3⟩
theorem aem{p:List lM}(h:zY p):oV p=0:=by
 induction p with
 |nil=>rfl
 |cons x p ih=>
  cases x with
  |bad e=>exact h.elim
  |ok t' Yg=>exact ih h
theorem FU(p:List lM):(dF p).length<=p.length:=by
 induction p with
 |nil=>exact Nat.le_refl _
 |cons x p ih=>
  cases x with
  |bad e=>exact Nat.zero_le _
  |ok t' Yg=>show(dF p).length+1<=p.length+1;omega
theorem sZ(s:List UInt8):∀(fuel i:Nat),(fJ s fuel i).length<=fuel
 |0,_=>Nat.le_refl _
 |fuel+1,i=>by
  unfold fJ;split
  ·exact Nat.zero_le _
  ·split
   ·simp
   ·have:=sZ s fuel;simp;exact this _
theorem Yh(ts:List (List UInt8)):ts.length<=(dY ts).length:=by
 induction ts with
 |nil=>exact Nat.zero_le _
 |cons t ts ih=>
  have e:dY (t::ts)=bM t++dY ts:=by simp[dY]
  have:=oN t;rw[e,lA0,List.length_cons];omega
theorem Gy(q t':List UInt8)(ht':t'.length<=65536)(hq:q<+:bM t')(hl:q.length<(bM t').length):∀(ts:List (List UInt8)) (pre:List UInt8) (fuel:Nat),(∀t∈ts,t.length<=65536)->ts.length+1<=fuel->
  dF (fJ (pre++dY ts++q) fuel pre.length)=ts/\lN pre.length (fJ (pre++dY ts++q) fuel pre.length)=pre.length+(dY ts).length/\oV (fJ (pre++dY ts++q) fuel pre.length)=if q=[]then 0 else qw 2
 |[],pre,fuel,_,hf=>by
  obtain⟨fuel,rfl⟩:∃k,fuel=k+1:=⟨fuel-1,by simp at hf;omega⟩;unfold fJ;by_cases h:q=[]
  ·subst h;simp[dY,dF,lN,oV]
  ·have:0<q.length:=List.length_pos_iff.2 h;have e:pre++dY []++q=pre++q:=by simp[dY]
   rw[e,if_neg (by simp;omega),EI pre q t' ht' hq hl,if_neg h];exact⟨rfl,rfl,rfl⟩
 |t::ts,pre,fuel,hb,hf=>by
  obtain⟨fuel,rfl⟩:∃k,fuel=k+1:=⟨fuel-1,by simp at hf;omega⟩;obtain⟨h1,h2,h3⟩:=Gy q t' ht' hq hl ts (pre++bM t) fuel (fun x hx=>hb x (by simp[hx])) (by simp at hf;omega);have e0:dY (t::ts)=bM t++dY ts:=by simp[dY]
  have e:pre++dY (t::ts)++q=pre++bM t++(dY ts++q):=by simp[dY]
  have e2:pre++bM t++dY ts++q=pre++bM t++(dY ts++q):=by simp
  rw[e2,lA0]at h1 h2 h3;rw[e];unfold fJ;have hpos:=oN t;rw[if_neg (by simp;omega),C5 pre t _ (hb t (by simp))];dsimp only;refine⟨by show t::dF _=_;rw[h1],?_,h3⟩;show lN (pre.length+(bM t).length) _=_;rw[h2,e0,lA0];omega
theorem Yi(ts:List (List UInt8))(q t':List UInt8)(hb:∀t∈ts,t.length<=65536)(ht':t'.length<=65536)(hq:q<+:bM t')(hl:q.length<(bM t').length):
  dF (aY (dY ts++q))=ts/\lN 0 (aY (dY ts++q))=(dY ts).length/\oV (aY (dY ts++q))=if q=[]then 0 else qw 2:=by
 have h:=Gy q t' ht' hq hl ts [] ((dY ts++q).length+1) hb (by have:=Yh ts;simp;omega);simpa [aY]using h
end Fr
end Go.Proofs.YtomccaocggplgaaGreat
namespace Go.Proofs.YtomccaocggplgaaGreat
namespace Fr
theorem KF{F:Fence}{n:Nat}{P:Program}{ops:Array Oper}{Q:Exit->Act->World->Prop}{i l:Nat}{K:Act->World->Prop}{a:Act}{w:World}(hro:F.round=none)(hd:∀(j:Nat) (o:Oper),ops[j]? =some o->∀c,o.op≠ .defer c)
  (h:wpOpIn F n P ops Q i K a w):wpOpIn (F.inRound l) n P ops Q i K a w:=by
 unfold wpOpIn at*
 cases ho:ops[i]? with
 |none=>simpa only[ho]using h
 |some o=>
  simp only[ho]at h⊢;split
  ·rename_i hw;simp only[hw,if_true]at h;unfold Oper.wpIn at*
   refine⟨h.1,?_⟩;have h2:=h.2;rw[hro,Oper.semAt_none]at h2;show o.uponIn (F.inRound l) n P a K Q ((o.semAt (some l) a.eval).run P w);rw[Oper.semAt_some l _ _ (hd i o ho)];exact h2
  ·rename_i hw;simp only[hw]at h;exact h
theorem Ji{F:Fence}{n:Nat}{P:Program}{md:Region.Mode}{ops:Array Oper}{Q:Exit->Act->World->Prop}{l:Nat}(hro:F.round=none)(hd:∀(j:Nat) (o:Oper),ops[j]? =some o->∀c,o.op≠ .defer c):
  ∀(fuel:Nat) (listed:Array Bool) (a:Act) (w:World),wpAnyIn F n P md ops Q fuel listed a w->wpAnyIn (F.inRound l) n P md ops Q fuel listed a w:=by
 intro fuel;induction fuel with
 |zero=>intro listed a w h;exact h
 |succ fuel ih=>
  intro listed a w h;exact⟨h.1,fun i hi=>KF hro hd (wpOpIn_mono (fun a w=>ih _ a w) (h.2 i hi))⟩
theorem Gn{F:Fence}{n:Nat}{P:Program}{ops:List Oper}{Q:Exit->Act->World->Prop}{l id:Nat}{a:Act}{w:World}(hro:F.round=none)(hm:P.follows .mixedOrders=true)(hd:∀o∈ops,∀c,o.op≠ .defer c)
  (h:wpAnyIn F n P .any ops.toArray Q ops.toArray.size (Array.replicate ops.toArray.size false) a w.drew):(Code.region id ops.toArray true).wpIn (F.inRound l) n P Q a w:=
 wpIn_region_any hm (Ji hro (fun j o ho=>hd o (by have:=Array.mem_of_getElem? ho;simpa using this)) _ _ _ _ h)

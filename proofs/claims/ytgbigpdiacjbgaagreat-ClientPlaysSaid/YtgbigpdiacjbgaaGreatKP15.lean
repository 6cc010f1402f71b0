/- Part 16. -/
import Derived.Test.YtgbigpdiacjbgaaGreatKP14
set_option linter.unusedSimpArgs false
set_option linter.unusedVariables false
set_option maxHeartbeats 32000000
set_option maxRecDepth 100000
namespace Go.Proofs.YtgbigpdiacjbgaaGreat
open Go.RowKit
namespace Ask
open bg Ops fG eP MO Vn
theorem mV.new{cl rq:Int}{a:iZ}(hn:I64 a.n)(h:newE cl rq a=0):mV (newT cl rq a):=by
 have hm:nJ cl rq (fK a) a=true:=by
  unfold newE at h;split at h
  ·cases h
  split at h
  ·cases h
  split at h
  ·assumption
  ·cases h
 refine⟨hn,⟨by show(0:Nat)<=32;decide,fun hk=> ?_⟩,by show(0:Int)<=0/\(0:Int)<=1073741824;decide,?_,fun hk=> ?_,fun _=>rfl⟩
 ·have hk':a.k=2:=hk;unfold nJ at hm;rw[if_neg (by omega),if_neg (by omega),if_pos hk']at hm;simp only[Bool.and_eq_true,decide_eq_true_eq]at hm;show((0:Nat):Int)<=a.n;omega
 ·show iG a<=2;unfold iG;split
  ·omega
  ·split<;>omega
 ·have hk':a.k=2:=hk;unfold nJ at hm;rw[if_neg (by omega),if_neg (by omega),if_pos hk']at hm;simp only[Bool.and_eq_true,decide_eq_true_eq]at hm;exact⟨hm.2.2.2.1,hm.2.2.2.2⟩
theorem mV.end{t:TS}(h:mV t)(r:o8):mV (eG t r):=⟨h.n,h.ps,h.wt,h.ph,h.n1,h.np⟩
theorem mV.page{t:TS}(h:mV t)(hk:t.a.k=2)(x:aO):mV (ig t x).1:=by
 obtain⟨_,h2,_,h4⟩:=DJ h hk x;have h5:=h.n1 hk;have hl:(t.ps++lM t x).length=t.ps.length+(lM t x).length:=lA0;unfold ig;split
 ·exact⟨h.n,⟨by show(t.ps++lM t x).length<=32;rw[hl];omega,fun _=>by show((t.ps++lM t x).length:Int)<=t.a.n;rw[hl];exact h4⟩,by show(0:Int)<=0/\(0:Int)<=1073741824;decide,h.ph,h.n1,fun e=>absurd hk e⟩
 ·exact⟨h.n,⟨by show(t.ps++lM t x).length<=32;rw[hl];omega,fun _=>by show((t.ps++lM t x).length:Int)<=t.a.n;rw[hl];exact h4⟩,by show(0:Int)<=0/\(0:Int)<=1073741824;decide,h.ph,h.n1,fun e=>absurd hk e⟩
theorem mV.take{t:TS}(h:mV t)(f:Int)(x:aO):mV (aI t f x).1:=by
 unfold aI;split
 ·exact h
 split
 ·unfold lN;split
  ·exact h.end _
  split
  ·exact h
  split
  ·exact h.end _
  ·exact⟨h.n,⟨by show(0:Nat)<=32;decide,fun hk=>by have:=h.n1 hk;show((0:Nat):Int)<=t.a.n;omega⟩,by show(0:Int)<=0/\(0:Int)<=1073741824;decide,by show 1<=2;decide,h.n1,fun _=>rfl⟩
 split
 ·unfold je;split
  ·exact h.end _
  split
  ·exact h
  split
  ·exact h.end _
  ·rename_i hk;exact h.page (by omega) x
 ·unfold takeA;split
  ·exact h.end _
  split
  ·exact h.end _
  ·exact h
theorem mV.tick{t:TS}(h:mV t):mV (bu t).1:=by
 have hw:=h.wt;have h1:mV {t with waits:=min (t.waits+1) 1073741824}:=⟨h.n,h.ps,by show 0<=min (t.waits+1) 1073741824/\min (t.waits+1) 1073741824<=1073741824;omega,h.ph,h.n1,h.np⟩;unfold bu;split
 ·exact h
 split
 ·exact h1.end _
 ·exact h1
end Ask
end Go.Proofs.YtgbigpdiacjbgaaGreat
namespace Go.Proofs.YtgbigpdiacjbgaaGreat
open Go.RowKit Go.Shelf
namespace Ops
open Vn
theorem Ry(o:dU)(a:ByteArray)(f:Bool):
  (one o a f=10/\(o.key.size<1\/8<o.key.size))\/(one o a f=3/\¬(o.key.size<1\/8<o.key.size)/\8<o.val.size)\/
  (one o a f=4/\¬(o.key.size<1\/8<o.key.size)/\¬8<o.val.size/\o.del=true/\o.val.toList.isEmpty=false)\/
  (one o a f=18/\¬(o.key.size<1\/8<o.key.size)/\¬8<o.val.size/\(o.del=false\/o.del=true/\o.val.toList.isEmpty=true)/\f=false/\Op.bytesLess a.toList o.key.toList=false)\/
  (one o a f=0/\¬(o.key.size<1\/8<o.key.size)/\¬8<o.val.size/\(o.del=false\/o.del=true/\o.val.toList.isEmpty=true)/\(f=true\/f=false/\Op.bytesLess a.toList o.key.toList=true)):=by
 unfold one;have he:=Cb o.val;by_cases h1:o.key.size<1\/8<o.key.size
 ·rw[if_pos h1];exact .inl ⟨rfl,h1⟩
 ·rw[if_neg h1];right;by_cases h2:8<o.val.size
  ·rw[if_pos h2];exact .inl ⟨rfl,h1,h2⟩
  ·rw[if_neg h2];right;by_cases h3:o.del=true/\o.val.size≠0
   ·rw[if_pos h3];exact .inl ⟨rfl,h1,h2,h3.1,by rw[he];exact decide_eq_false h3.2⟩
   ·rw[if_neg h3];right;have hd:o.del=false\/o.del=true/\o.val.toList.isEmpty=true:=by
     cases hd:o.del
     ·exact .inl rfl
     ·exact .inr ⟨rfl,by rw[he];exact decide_eq_true (Classical.byContradiction fun x=>h3 ⟨hd,x⟩)⟩
    by_cases h4:f=false/\Op.bytesLess a.toList o.key.toList=false
    ·rw[if_pos h4];exact .inl ⟨rfl,h1,h2,hd,h4.1,h4.2⟩
    ·rw[if_neg h4];refine .inr ⟨rfl,h1,h2,hd,?_⟩;cases hf:f
     ·right;refine⟨rfl,?_⟩;cases hb:Op.bytesLess a.toList o.key.toList
      ·exact absurd ⟨hf,hb⟩ h4
      ·rfl
     ·left;rfl
theorem ng(w:World)(b:Batch)(A:Option Addr)(c:Nat)(hs:Src w 3 A b.ops.length (cells b.ops))(hcap:b.ops.length<=c):
  Calls Tryz.prog 113 #[nT b A c] w fun e w'=>e=.returned (.int .i64 (chk b))/\Kept aj w w':=by
 have hc:=IK b;obtain⟨cl,req,l⟩:=b;dsimp only at hc hs;unfold nT;dsimp only;have HS:=ah hs;clear hs;rcases hc with⟨hc,h1|⟨h1,h2⟩⟩|⟨hc,h0,h1,h2|⟨h2,h3⟩⟩|⟨hc,h0,h1,h2,h3,h4⟩|⟨hc,h0,h1,h2,h3,h4⟩
 ·rw[hc];clear hc HS;go_enter Tryz.func113,Tryz.ntmps113;go_wp2;go_ret;exact⟨rfl,(Kept.refl _ _).alloc _⟩
 ·rw[hc];clear hc HS;go_enter Tryz.func113,Tryz.ntmps113;go_wp2;go_ret;exact⟨rfl,(Kept.refl _ _).alloc _⟩
 ·rw[hc];clear hc HS;have g1:¬cl<0:=by omega
  have g2:¬3<=cl:=by omega
  go_enter Tryz.func113,Tryz.ntmps113;go_wp2;go_ret;exact⟨rfl,(Kept.refl _ _).alloc _⟩
 ·rw[hc];clear hc HS;have g1:¬cl<0:=by omega
  have g2:¬3<=cl:=by omega
  go_enter Tryz.func113,Tryz.ntmps113;go_wp2;go_ret;exact⟨rfl,(Kept.refl _ _).alloc _⟩
 ·rw[hc];clear hc HS;have g1:¬cl<0:=by omega
  have g2:¬3<=cl:=by omega
  have g3:¬req<1:=by omega
  have g4:¬1073741824<req:=by omega
  go_enter Tryz.func113,Tryz.ntmps113;go_wp2;go_ret;exact⟨rfl,(Kept.refl _ _).alloc _⟩
 ·rw[hc];clear hc;have g1:¬cl<0:=by omega
  have g2:¬3<=cl:=by omega
  have g3:¬req<1:=by omega
  have g4:¬1073741824<req:=by omega
  go_enter Tryz.func113,Tryz.ntmps113;go_wp2;have HB0:=ah (Has.new w 59 #[.int .i64 cl,.int .i64 req,.slice A l.length c]);go_loopw [3] (fun v3 wr=>∃(i:Nat) (a:ByteArray),i<=l.length/\v3=.int .i64 i/\vG l emp true=vG (l.drop i) a (decide (i=0))/\(0<i->∃o',l[i-1]? =some o'/\a=o'.key)/\Has wr w.heap.size 59 #[.int .i64 cl,.int .i64 req,.slice A l.length c]/\Kept aj w wr) (fun v3 _=>l.length-(intOf v3).toNat)
  case atStart=>exact⟨0,emp,Nat.zero_le _,rfl,rfl,fun h=>absurd h (by decide),HB0.out,by(repeat'(first|(with_reducible first|exact ay|apply aA|apply aB|apply aC|apply aF)|(right;simp;done)))⟩
  case round=>
   obtain⟨i,a,hi,rfl,he,zo,hb,hk⟩:=hrel;have HE:=ah he;clear he;have HK:=ah hk;clear hk;have b2:wr.cell? ⟨w.heap.size,2,none⟩=some (.slice A l.length c):=hb.cell 2;by_cases hil:i<l.length
   ·obtain⟨o,ho⟩:∃o,l[i]? =some o:=⟨_,lB0 hil⟩;have hoi:l[i]=o:=by rw[lB0 hil]at ho;exact Option.some.inj ho
    obtain⟨ad,rfl,had,e0,e1,e2⟩:=nU (HS.out.kept HK.out (fun _ _ x=>x)) (by omega) i o ho;have hd:=NF l i hil a (decide (i=0));rw[hoi]at hd;obtain⟨f,hf⟩:∃f,decide (i=0)=f:=⟨_,rfl⟩;rw[hf]at hd HE;have h1c:=Ry o a f;have HD:=ah hd;clear hd hoi;have HO0:=ah ho;clear ho;have HB:=ah hb;clear hb;have hb2:∀obj,Has (wr.alloc obj) w.heap.size 59 #[.int .i64 cl,.int .i64 req,.slice (some ad) l.length c]:=fun obj=>HB.out.alloc obj;have y2:∀obj,(wr.alloc obj).cell? ⟨w.heap.size,2,none⟩=some (.slice (some ad) l.length c):=fun obj=>(hb2 obj).cell 2;have hkey:∀W,Calls Tryz.prog 117 #[.string o.key] W fun e w'=>e=.returned (.int .i64 (if o.key.size<1\/8<o.key.size then 10 else 0))/\W=w':=Be o.key;have HBA:=ah hb2;clear hb2;rcases h1c with⟨hv,k1⟩|⟨hv,k1,k2⟩|⟨hv,k1,k2,k3,k4⟩|⟨hv,k1,k2,k3,k4,k5⟩|⟨hv,k1,k2,k3,k4⟩
    ·rw[if_pos k1]at hkey;have hr:=HE.out.trans HD.out;rw[hv,if_pos (by decide)]at hr;have HR:=ah hr;clear hr HE HD hv zo;have uf:=ah hkey;clear hkey k1;go_wp2_with fail;refine(uf.out _).mono ?_;rintro e w2 ⟨rfl,rfl⟩;go_wp2;go_ret;exact⟨by rw[HR.out];rfl,HK.out.alloc _⟩
    ·rw[if_neg k1]at hkey;have hr:=HE.out.trans HD.out;rw[hv,if_pos (by decide)]at hr;have HR:=ah hr;clear hr HE HD hv zo;have uf:=ah hkey;clear hkey k1;go_wp2_with fail;refine(uf.out _).mono ?_;rintro e w2 ⟨rfl,rfl⟩;go_wp2;go_ret;exact⟨by rw[HR.out];rfl,HK.out.alloc _⟩
    ·rw[if_neg k1]at hkey;have hr:=HE.out.trans HD.out;rw[hv,if_pos (by decide)]at hr;have HR:=ah hr;clear hr HE HD hv zo;have uf:=ah hkey;clear hkey k1;obtain⟨ok,ov,od⟩:=o;dsimp only at*
     subst k3;go_wp2_with fail;refine(uf.out _).mono ?_;rintro e w2 ⟨rfl,rfl⟩;go_wp2;go_ret;exact⟨by rw[HR.out];rfl,HK.out.alloc _⟩
    ·rw[if_neg k1]at hkey;have hr:=HE.out.trans HD.out;rw[hv,if_pos (by decide)]at hr;have HR:=ah hr;clear hr HE HD hv;have uf:=ah hkey;clear hkey k1;subst k4;have hi0:0<i:=by
      rcases Nat.eq_zero_or_pos i with h0|h0
      ·subst h0;simp at hf
      ·exact h0
     obtain⟨o',ho',rfl⟩:=zo hi0;obtain⟨ad',Dz,_,p0,_,_⟩:=nU (HS.out.kept HK.out (fun _ _ x=>x)) (by omega) (i-1) o' ho';injection Dz with Dz;subst Dz;have p0':∀obj,(wr.alloc obj).cell? (ad.add ((i-1)*3))=some (.string o'.key):=fun obj=>(World.cell?_of_block (w:=wr) (Below.heap_alloc wr obj _ (by rw[block_add];exact had))).trans p0;have q1:((i:Int)-1).toNat=i-1:=by omega
     have q2:0<=(i:Int)-1:=by omega
     have q3:(i:Int)-1<l.length:=by omega
     clear hf zo;obtain⟨ok,ov,od⟩:=o;dsimp only at*
     rcases k3 with rfl|⟨rfl,k3⟩
     ·go_wp2_with fail;refine(uf.out _).mono ?_;rintro e w2 ⟨rfl,rfl⟩;go_wp2;go_quiet (fail);go_wp2;go_ret;exact⟨by rw[HR.out];rfl,(HK.out.alloc _).drewN _⟩
     ·go_wp2_with fail;refine(uf.out _).mono ?_;rintro e w2 ⟨rfl,rfl⟩;go_wp2;go_quiet (fail);go_wp2;go_ret;exact⟨by rw[HR.out];rfl,(HK.out.alloc _).drewN _⟩
    ·rw[if_neg k1]at hkey;have hr:=HE.out.trans HD.out;rw[hv,if_neg (by simp)]at hr;have HR:=ah hr;clear hr HE HD hv;have uf:=ah hkey;clear hkey k1;by_cases hi0:i=0
     ·have Y8:¬0<i:=by omega
      clear k4 hf zo hi0;obtain⟨ok,ov,od⟩:=o;dsimp only at*
      rcases k3 with rfl|⟨rfl,k3⟩
      all_goals
       go_wp2_with fail
       refine(uf.out _).mono ?_
       rintro e w2 ⟨rfl,rfl⟩
       go_wp2
       go_quiet (fail)
       go_wp2
       go_roundw
       case rel=>
        refine⟨i+1,ok,by omega,by go_num,?_,fun _=>⟨_,HO0.out,rfl⟩,(HBA.out _).drewN _,(HK.out.alloc _).drewN _⟩;rw[HR.out];have:decide (i+1=0)=false:=by simp
        rw[this]
       case measure=>simp[intOf];omega
     ·have Y8:0<i:=by omega
      have hf2:f=false:=by rw[<-hf];simp;omega
      have k5:Op.bytesLess a.toList o.key.toList=true:=by
       rcases k4 with rfl|⟨_,h⟩
       ·cases hf2
       ·exact h
      clear k4;subst hf2;obtain⟨o',ho',rfl⟩:=zo Y8;obtain⟨ad',Dz,_,p0,_,_⟩:=nU (HS.out.kept HK.out (fun _ _ x=>x)) (by omega) (i-1) o' ho';injection Dz with Dz;subst Dz;have p0':∀obj,(wr.alloc obj).cell? (ad.add ((i-1)*3))=some (.string o'.key):=fun obj=>(World.cell?_of_block (w:=wr) (Below.heap_alloc wr obj _ (by rw[block_add];exact had))).trans p0;have q1:((i:Int)-1).toNat=i-1:=by omega
      have q2:0<=(i:Int)-1:=by omega
      have q3:(i:Int)-1<l.length:=by omega
      clear hf zo;obtain⟨ok,ov,od⟩:=o;dsimp only at*
      rcases k3 with rfl|⟨rfl,k3⟩
      all_goals
       go_wp2_with fail
       refine(uf.out _).mono ?_
       rintro e w2 ⟨rfl,rfl⟩
       go_wp2
       go_quiet (fail)
       go_wp2
       go_roundw
       case rel=>
        refine⟨i+1,ok,by omega,by go_num,?_,fun _=>⟨_,HO0.out,rfl⟩,(HBA.out _).drewN _,(HK.out.alloc _).drewN _⟩;rw[HR.out];have:decide (i+1=0)=false:=by simp
        rw[this]
       case measure=>simp[intOf];omega
   ·obtain rfl:i=l.length:=by omega
    have hr:=HE.out;rw[List.drop_length,vG]at hr;have HR:=ah hr;clear HE hr zo;go_wp2;go_ret;exact⟨by rw[HR.out];rfl,HK.out⟩
end Ops
end Go.Proofs.YtgbigpdiacjbgaaGreat
namespace Go.Proofs.YtgbigpdiacjbgaaGreat
open Go.RowKit
namespace Ask
open bg Ops fG eP MO Vn
attribute [local go_sem↓] bW cZ
def wR:List Nat:=[101,114,110,107,116,97,66]
section
variable(w:World)(x:aO)
theorem U1:Calls Tryz.prog 111 #[aK x,.int .u8 101] w fun e w'=>e=.returned (.int .i64 (x.ep))/\Kept aj w w':=by
 obtain⟨W0,hW0⟩:∃W0,w.alloc (.cells (au x).toArray 63)=W0:=⟨_,rfl⟩;have hk0:Kept aj w W0:=by rw[<-hW0];(repeat'(first|(with_reducible first|exact ay|apply aA|apply aB|apply aC|apply aF)|(right;simp;done)))
 have hn0:Has W0 w.heap.size 63 (au x).toArray:=by rw[<-hW0];exact Has.new _ _ _
 have q:W0.cell? ⟨w.heap.size,1,none⟩=some (.int .i64 (x.ep)):=hn0.cell 1;have aS:=ah hk0;clear hk0 hn0;go_enter Tryz.func111,Tryz.ntmps111;go_wp2;go_ret;exact⟨rfl,aS.out⟩
theorem U2:Calls Tryz.prog 111 #[aK x,.int .u8 114] w fun e w'=>e=.returned (.int .i64 (x.req))/\Kept aj w w':=by
 obtain⟨W0,hW0⟩:∃W0,w.alloc (.cells (au x).toArray 63)=W0:=⟨_,rfl⟩;have hk0:Kept aj w W0:=by rw[<-hW0];(repeat'(first|(with_reducible first|exact ay|apply aA|apply aB|apply aC|apply aF)|(right;simp;done)))
 have hn0:Has W0 w.heap.size 63 (au x).toArray:=by rw[<-hW0];exact Has.new _ _ _
 have q:W0.cell? ⟨w.heap.size,2,none⟩=some (.int .i64 (x.req)):=hn0.cell 2;have aS:=ah hk0;clear hk0 hn0;go_enter Tryz.func111,Tryz.ntmps111;go_wp2;go_ret;exact⟨rfl,aS.out⟩
theorem U3:Calls Tryz.prog 111 #[aK x,.int .u8 110] w fun e w'=>e=.returned (.int .i64 (x.n))/\Kept aj w w':=by
 obtain⟨W0,hW0⟩:∃W0,w.alloc (.cells (au x).toArray 63)=W0:=⟨_,rfl⟩;have hk0:Kept aj w W0:=by rw[<-hW0];(repeat'(first|(with_reducible first|exact ay|apply aA|apply aB|apply aC|apply aF)|(right;simp;done)))
 have hn0:Has W0 w.heap.size 63 (au x).toArray:=by rw[<-hW0];exact Has.new _ _ _
 have q:W0.cell? ⟨w.heap.size,7,none⟩=some (.int .i64 (x.n)):=hn0.cell 7;have aS:=ah hk0;clear hk0 hn0;go_enter Tryz.func111,Tryz.ntmps111;go_wp2;go_ret;exact⟨rfl,aS.out⟩
theorem OM(hr:0<=x.ep/\x.ep<=1073741824):Calls Tryz.prog 72 #[aK x,.int .u8 101] w fun e w'=>e=.returned (.int .i64 0)/\Kept aj w w':=by
 obtain⟨W0,hW0⟩:∃W0,w.alloc (.cells (au x).toArray 63)=W0:=⟨_,rfl⟩;have hk0:Kept aj w W0:=by rw[<-hW0];(repeat'(first|(with_reducible first|exact ay|apply aA|apply aB|apply aC|apply aF)|(right;simp;done)))
 have hn0:Has W0 w.heap.size 63 (au x).toArray:=by rw[<-hW0];exact Has.new _ _ _
 have hc:=U1 W0 x;have hl0:=aH W0 w.heap.size x hn0;obtain⟨n,hn⟩:∃n,x.ep=n:=⟨_,rfl⟩;rw[hn]at hr hc;obtain⟨h1,h2⟩:=hr;have HC:=ah hc;have aS:=ah hk0;clear hk0 hn0 hc hn;go_enter Tryz.func72,Tryz.ntmps72;go_wp2_with fail;refine HC.out.mono ?_;rintro e w2 ⟨rfl,hk⟩;have HK:=ah (aS.out.then hk);clear hk;go_wp2;go_ret;exact⟨rfl,HK.out⟩
theorem OO(hr:0<=x.req/\x.req<=1073741824):Calls Tryz.prog 72 #[aK x,.int .u8 114] w fun e w'=>e=.returned (.int .i64 0)/\Kept aj w w':=by
 obtain⟨W0,hW0⟩:∃W0,w.alloc (.cells (au x).toArray 63)=W0:=⟨_,rfl⟩;have hk0:Kept aj w W0:=by rw[<-hW0];(repeat'(first|(with_reducible first|exact ay|apply aA|apply aB|apply aC|apply aF)|(right;simp;done)))
 have hn0:Has W0 w.heap.size 63 (au x).toArray:=by rw[<-hW0];exact Has.new _ _ _
 have hc:=U2 W0 x;have hl0:=aH W0 w.heap.size x hn0;obtain⟨n,hn⟩:∃n,x.req=n:=⟨_,rfl⟩;rw[hn]at hr hc;obtain⟨h1,h2⟩:=hr;have HC:=ah hc;have aS:=ah hk0;clear hk0 hn0 hc hn;go_enter Tryz.func72,Tryz.ntmps72;go_wp2_with fail;refine HC.out.mono ?_;rintro e w2 ⟨rfl,hk⟩;have HK:=ah (aS.out.then hk);clear hk;go_wp2;go_ret;exact⟨rfl,HK.out⟩
theorem OP(hr:0<=x.n/\x.n<=1073741824):Calls Tryz.prog 72 #[aK x,.int .u8 110] w fun e w'=>e=.returned (.int .i64 0)/\Kept aj w w':=by
 obtain⟨W0,hW0⟩:∃W0,w.alloc (.cells (au x).toArray 63)=W0:=⟨_,rfl⟩;have hk0:Kept aj w W0:=by rw[<-hW0];(repeat'(first|(with_reducible first|exact ay|apply aA|apply aB|apply aC|apply aF)|(right;simp;done)))
 have hn0:Has W0 w.heap.size 63 (au x).toArray:=by rw[<-hW0];exact Has.new _ _ _
 have hc:=U3 W0 x;have hl0:=aH W0 w.heap.size x hn0;obtain⟨n,hn⟩:∃n,x.n=n:=⟨_,rfl⟩;rw[hn]at hr hc;obtain⟨h1,h2⟩:=hr;have HC:=ah hc;have aS:=ah hk0;clear hk0 hn0 hc hn;go_enter Tryz.func72,Tryz.ntmps72;go_wp2_with fail;refine HC.out.mono ?_;rintro e w2 ⟨rfl,hk⟩;have HK:=ah (aS.out.then hk);clear hk;go_wp2;go_ret;exact⟨rfl,HK.out⟩
theorem OQ(hr:x.key.size<=8):Calls Tryz.prog 72 #[aK x,.int .u8 107] w fun e w'=>e=.returned (.int .i64 0)/\Kept aj w w':=by
 obtain⟨W0,hW0⟩:∃W0,w.alloc (.cells (au x).toArray 63)=W0:=⟨_,rfl⟩;have hk0:Kept aj w W0:=by rw[<-hW0];(repeat'(first|(with_reducible first|exact ay|apply aA|apply aB|apply aC|apply aF)|(right;simp;done)))
 have hn0:Has W0 w.heap.size 63 (au x).toArray:=by rw[<-hW0];exact Has.new _ _ _
 have q:W0.cell? ⟨w.heap.size,11,none⟩=some (.string x.key):=hn0.cell 11;have h8:¬(8:Int)<(x.key.size:Int):=by omega
 have aS:=ah hk0;clear hk0 hn0;go_enter Tryz.func72,Tryz.ntmps72;go_wp2;go_ret;exact⟨rfl,aS.out⟩
theorem OT(hr:x.to.size<=8):Calls Tryz.prog 72 #[aK x,.int .u8 116] w fun e w'=>e=.returned (.int .i64 0)/\Kept aj w w':=by
 obtain⟨W0,hW0⟩:∃W0,w.alloc (.cells (au x).toArray 63)=W0:=⟨_,rfl⟩;have hk0:Kept aj w W0:=by rw[<-hW0];(repeat'(first|(with_reducible first|exact ay|apply aA|apply aB|apply aC|apply aF)|(right;simp;done)))
 have hn0:Has W0 w.heap.size 63 (au x).toArray:=by rw[<-hW0];exact Has.new _ _ _
 have q:W0.cell? ⟨w.heap.size,12,none⟩=some (.string x.to):=hn0.cell 12;have h8:¬(8:Int)<(x.to.size:Int):=by omega
 have aS:=ah hk0;clear hk0 hn0;go_enter Tryz.func72,Tryz.ntmps72;go_wp2;go_ret;exact⟨rfl,aS.out⟩
theorem Rz:Calls Tryz.prog 72 #[aK x,.int .u8 97] w fun e w'=>e=.returned (.int .i64 0)/\Kept aj w w':=by
 obtain⟨W0,hW0⟩:∃W0,w.alloc (.cells (au x).toArray 63)=W0:=⟨_,rfl⟩;have hk0:Kept aj w W0:=by rw[<-hW0];(repeat'(first|(with_reducible first|exact ay|apply aA|apply aB|apply aC|apply aF)|(right;simp;done)))
 have hn0:Has W0 w.heap.size 63 (au x).toArray:=by rw[<-hW0];exact Has.new _ _ _
 have aS:=ah hk0;clear hk0 hn0;go_enter Tryz.func72,Tryz.ntmps72;go_wp2;go_ret;exact⟨rfl,aS.out⟩
theorem RD(hs:Src w 3 x.oA x.ops.length (cells x.ops))(hcap:x.ops.length<=x.oc)(hr:Ops.chk (jU x)=0):Calls Tryz.prog 72 #[aK x,.int .u8 66] w fun e w'=>e=.returned (.int .i64 0)/\Kept aj w w':=by
 obtain⟨W0,hW0⟩:∃W0,w.alloc (.cells (au x).toArray 63)=W0:=⟨_,rfl⟩;have hk0:Kept aj w W0:=by rw[<-hW0];(repeat'(first|(with_reducible first|exact ay|apply aA|apply aB|apply aC|apply aF)|(right;simp;done)))
 have hn0:Has W0 w.heap.size 63 (au x).toArray:=by rw[<-hW0];exact Has.new _ _ _
 have q1:W0.cell? ⟨w.heap.size,16,none⟩=some (.int .i64 x.o7):=hn0.cell 16;have q2:W0.cell? ⟨w.heap.size,17,none⟩=some (.int .i64 x.lK):=hn0.cell 17;have q3:W0.cell? ⟨w.heap.size,18,none⟩=some (.slice x.oA x.ops.length x.oc):=hn0.cell 18;have hc:=Ops.ng W0 (jU x) x.oA x.oc (hs.kept hk0 (fun _ _ z=>z)) hcap;rw[hr]at hc;dsimp only[nT,jU]at hc;have HC:=ah hc;have aS:=ah hk0;clear hk0 hn0 hc hr hs hcap;go_enter Tryz.func72,Tryz.ntmps72;go_wp2_with fail;refine HC.out.mono ?_;rintro e w3 ⟨rfl,hk⟩;have HK:=ah (aS.out.then hk);clear hk;go_wp2;go_ret;exact⟨rfl,HK.out⟩
structure Sends(w:World)(x:aO):Prop where
 k:x.k=5\/x.k=8\/x.k=9\/x.k=11\/x.k=12\/x.k=13\/x.k=15
 e:0<=x.ep/\x.ep<=1073741824
 r:0<=x.req/\x.req<=1073741824
 n:0<=x.n/\x.n<=1073741824
 key:x.key.size<=8
 to:x.to.size<=8
 s:Src w 3 x.oA x.ops.length (cells x.ops)
 c:x.ops.length<=x.oc
 b:x.k=5->Ops.chk (jU x)=0
theorem OU(h:Sends w x){c:Nat}(hc:c∈wR)(h5:c=66->x.k=5):Calls Tryz.prog 72 #[aK x,.int .u8 c] w fun e w'=>e=.returned (.int .i64 0)/\Kept aj w w':=by
 unfold wR at hc;simp only[List.mem_cons,List.not_mem_nil,or_false]at hc;rcases hc with rfl|rfl|rfl|rfl|rfl|rfl|rfl
 ·exact OM w x h.e
 ·exact OO w x h.r
 ·exact OP w x h.n
 ·exact OQ w x h.key
 ·exact OT w x h.to
 ·exact Rz w x
 ·exact RD w x h.s h.c (h.b (h5 rfl))
theorem OV{k:Int}(h:k=5\/k=8\/k=9\/k=11\/k=12\/k=13\/k=15):Calls Tryz.prog 37 #[.int .i64 k] w fun e w'=>e=.returned (.string (lets (partsOf k)))/\Kept aj w w':=by
 rcases h with rfl|rfl|rfl|rfl|rfl|rfl|rfl
 all_goals
  go_enter Tryz.func37,Tryz.ntmps37
  go_wp2
  go_ret
  exact⟨rfl,by(repeat'(first|(with_reducible first|exact ay|apply aA|apply aB|apply aC|apply aF)|(right;simp;done)))⟩
theorem wS(l:List Nat):(lets l).size=l.length:=by unfold lets kX;rw[<-iw,lH,List.length_map]
theorem Cm{l:List Nat}(hl:∀c∈l,c<256){i c:Nat}(h:l[i]? =some c):∃hi:i<(lets l).size,((lets l)[i]'hi).toNat=c:=by
 have hi:i<l.length:=(lD0.1 h).1;have hs:i<(lets l).size:=by rw[wS];exact hi
 refine⟨hs,?_⟩;have h1:(lets l)[i]'hs=(kX l)[i]'(by unfold kX;rw[List.length_map];exact hi):=by unfold lets fE;rfl
 rw[h1];obtain⟨_,e⟩:=lD0.1 h;have:=hl c (lC0 h);simp only[kX,List.getElem_map,e];exact UInt8.toNat_ofNat_of_lt this
end
theorem yK{k:Int}(h:k=5\/k=8\/k=9\/k=11\/k=12\/k=13\/k=15):∀c∈partsOf k,c∈wR/\(c=66->k=5):=by rcases h with rfl|rfl|rfl|rfl|rfl|rfl|rfl<;>decide
theorem Sends.kept{w w':World}{x:aO}(h:Sends w x)(hk:Kept aj w w'):Sends w' x:=⟨h.k,h.e,h.r,h.n,h.key,h.to,h.s.kept hk (fun _ _ z=>z),h.c,h.b⟩
theorem Za{k:Int}(h:k=5\/k=8\/k=9\/k=11\/k=12\/k=13\/k=15):((lets (partsOf k)).toList==[63])=false:=by
 have e:(lets (partsOf k)).toList=kX (partsOf k):=by rw[Lib.toList_data];exact lH _
 rw[e];rcases h with rfl|rfl|rfl|rfl|rfl|rfl|rfl<;>decide
attribute [local go_sem] ni
theorem Nj(w:World)(x:aO)(h:Sends w x):Calls Tryz.prog 40 #[aK x] w fun e w'=>e=.returned (.int .i64 0)/\Kept aj w w':=by
 obtain⟨W0,hW0⟩:∃W0,w.alloc (.cells (au x).toArray 63)=W0:=⟨_,rfl⟩;have hk0:Kept aj w W0:=by rw[<-hW0];(repeat'(first|(with_reducible first|exact ay|apply aA|apply aB|apply aC|apply aF)|(right;simp;done)))
 have hn0:Has W0 w.heap.size 63 (au x).toArray:=by rw[<-hW0];exact Has.new _ _ _
 have q:W0.cell? ⟨w.heap.size,0,none⟩=some (.int .i64 x.k):=hn0.cell 0;have hp:=OV W0 h.k;have hin:=yK h.k;have hq:=Za h.k;obtain⟨l,hl⟩:∃l,partsOf x.k=l:=⟨_,rfl⟩;rw[hl]at hp hin hq;have hcall:∀W,Kept aj W0 W->∀c∈l,Calls Tryz.prog 72 #[aK x,.int .u8 c] W fun e w'=>e=.returned (.int .i64 0)/\Kept aj W w':=fun W hW c hc=>OU W x (h.kept (hk0.then hW)) (hin c hc).1 (hin c hc).2;have hsm:∀c∈l,c<256:=fun c hc=>by have:=(hin c hc).1;unfold wR at this;simp only[List.mem_cons,List.not_mem_nil,or_false]at this;omega
 have hsz:=wS l;have hll:l.length<=7:=by rw[<-hl];exact pV _
 obtain⟨p,hp0⟩:∃p,lets l=p:=⟨_,rfl⟩;have hix:∀(i c:Nat),l[i]? =some c->∀W,(Instr.index 9 (.string p) (.int .i64 i)).run Tryz.prog W=.ok (.int .u8 c) W:=fun i c hc W=>by obtain⟨hi,e⟩:=Cm hsm hc;rw[<-hp0,run_index_string W 9 (lets l) .i64 i (by rfl),dif_pos ⟨by omega,by omega⟩];simp only[Int.toNat_natCast,e]
 rw[hp0]at hp hsz hq;have HP:=ah hp;have HC:=ah hcall;have KL:=ah hix;have aS:=ah hk0;have dZ:=ah hn0;have sH:=ah hsz;obtain⟨cs,hcs⟩:∃cs,(au x).toArray=cs:=⟨_,rfl⟩;have FK:=dZ;unfold aK at HC⊢;rw[hcs]at hW0 HC dZ⊢;have dV:=ah hcs;clear hcs;clear hp hcall hix hk0 hn0 hin hsm hl h hp0 hsz;go_enter Tryz.func40,Tryz.ntmps40;go_wp2_with fail;clear hW0;refine HP.out.mono ?_;rintro e w2 ⟨rfl,hk⟩;have gJ:=ah hk;clear hk q;go_wp2_with fail;go_loopw [4] (fun v4 wr=>∃i:Nat,i<=l.length/\v4=.int .i64 i/\Kept aj W0 wr) (fun v4 _=>l.length-(intOf v4).toNat)
 case atStart=>exact⟨0,Nat.zero_le _,rfl,by(repeat'(first|(with_reducible first|exact ay|apply aA|apply aB|apply aC|apply aF)|(exact gJ.out)|(right;simp;done)))⟩
 case round=>
  obtain⟨i,hi,rfl,hk⟩:=hrel;have HK:=ah hk;clear hk;have hsz:=sH.out;by_cases hil:i<l.length
  ·obtain⟨c,hc⟩:∃c,l[i]? =some c:=⟨_,lB0 hil⟩;have g1:(i:Int)<(p.size:Int):=by omega
   have hix:=KL.out i c hc;have hcc:=HC.out wr.drew HK.out.drew c (lC0 hc);obtain⟨u1,u2⟩:=dD (FK.out.kept HK.out.drew (fun z=>z));obtain⟨v1,v2⟩:=dD (FK.out.kept HK.out (fun z=>z));rw[dV.out]at u2 v2;have Gz:=ah hcc;have U4:=ah hix;clear hc hcc hsz;go_wp2
   go_region_held3 (fun W=>fD W ⟨w.heap.size,0,none⟩/\eX W ⟨w.heap.size,0,none⟩=cs) (first|with_reducible exact⟨u1,u2⟩|with_reducible exact⟨v1,v2⟩|with_reducible exact hix _|exact⟨u1,u2⟩)
    (first|(go_at_call 72;refine Gz.out.mono ?_;rintro e w5 ⟨rfl,hk5⟩;obtain⟨u1,u2⟩:=dD (FK.out.kept (HK.out.drew.then hk5) (fun z=>z));rw[dV.out]at u2;have dK:=ah hk5;clear hk5))
   all_goals
    go_wp2
    go_roundw
    case rel=>exact⟨i+1,by omega,by go_num,HK.out.drew.then dK.out⟩
    case measure=>simp[intOf];omega
  ·have hie:i=l.length:=by omega
   have g1:¬(i:Int)<(p.size:Int):=by omega
   clear hsz;go_wp2;go_ret;exact⟨rfl,aS.out.then HK.out⟩

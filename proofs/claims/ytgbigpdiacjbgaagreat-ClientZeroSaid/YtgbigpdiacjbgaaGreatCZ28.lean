/- Part 29. -/
import Derived.Test.YtgbigpdiacjbgaaGreatCZ27
set_option linter.unusedSimpArgs false
set_option linter.unusedVariables false
set_option maxHeartbeats 32000000
set_option maxRecDepth 100000
namespace Go.Proofs.YtgbigpdiacjbgaaGreat
open Go.RowKit
namespace Cli
open aJ Ops dG bQ Vn Go.Proofs.YtgbigpdiacjbgaaGreat.Ask
structure jM where
 k:Int
 a:bF
 fr:Int
 body:ByteArray
def jZ(x:jM):List Value:=.int .i64 x.k::(aQ x.a++[.int .i64 x.fr,.string x.body])
def ku(l:List jM):List Value:=l.flatMap jZ
theorem uN{w:World}{A:Option Addr}{m:Nat}{l:List jM}(h:Src w 10 A m (ku l))(hm:0<m)(i:Nat)(x:jM)(hx:l[i]? =some x):
  ∃ad,A=some ad/\ad.block<w.heap.size/\∀j u,(jZ x)[j]? =some u->w.cell? ((ad.add (i*10)).add j)=some u:=by
 obtain⟨ad,rfl,had,hcell⟩:=h.2 hm;refine⟨ad,rfl,had,fun j u hu=> ?_⟩;have hj:j<10:=(lD0.1 hu).1;rw[add_add];refine hcell _ _ ?_;unfold ku;rw[flat_get jZ 10 (by decide) (fun _=>rfl),show(i*10+j)/10=i by omega,show(i*10+j)%10=j by omega,hx];exact hu
def iC(x:jM):Bool:=decide (x.a.ops.length<=20)&&(decide (x.a.key.size<=100)&&(decide (x.a.to.size<=100)&&decide (x.body.size<=3000)))
def lV(l:List jM):Bool:=(l.take 60).all iC
theorem zf{x:jM}(h:iC x=true):x.a.ops.length<=20/\x.a.key.size<=100/\x.a.to.size<=100/\x.body.size<=3000:=by unfold iC at h;simp only[Bool.and_eq_true,decide_eq_true_eq]at h;exact h
theorem zh{x:jM}(h:20<x.a.ops.length\/100<x.a.key.size\/100<x.a.to.size\/3000<x.body.size):iC x=false:=by
 cases hf:iC x with
 |false=>rfl
 |true=>have:=zf hf;omega
theorem Ak{x:jM}(h1:¬20<x.a.ops.length)(h2:¬100<x.a.key.size)(h3:¬100<x.a.to.size)(h4:¬3000<x.body.size):iC x=true:=by unfold iC;simp only[Bool.and_eq_true,decide_eq_true_eq];omega
theorem Am(w:World)(A:Option Addr)(c:Nat)(l:List jM)(hl:Src w 10 A l.length (ku l))(hls:∀x∈l,x.a.ops.length<=maxLen/\x.a.key.size<=maxLen/\x.a.to.size<=maxLen/\x.body.size<=maxLen):
  Calls Tryz.prog 6 #[.slice A l.length c] w fun e w'=>e=.returned (.bool (lV l))/\Kept aj w w':=by
 have hsh:lV l=((l.take 60).drop 0).all iC:=by rw[List.drop_zero];rfl
 have HL:=ah hl;have FT:=ah hls;have FU:=ah hsh;clear hl hls hsh;go_enter Tryz.func6,Tryz.ntmps6;go_wp2_with fail;go_loopw [3] (fun v3 wr=>∃i:Nat,i<=60/\i<=l.length/\v3=.int .i64 i/\lV l=((l.take 60).drop i).all iC/\Kept aj w wr) (fun v3 _=>l.length-(intOf v3).toNat)
 case atStart=>exact⟨0,by omega,Nat.zero_le _,rfl,FU.out,Kept.refl _ _⟩
 case round=>
  obtain⟨i,hi,hi2,rfl,he,hk⟩:=hrel;have HE:=ah he;have HK:=ah hk;clear he hk;by_cases hil:i<l.length
  ·by_cases FV:i<60
   ·obtain⟨x,hx⟩:∃x,l[i]? =some x:=⟨_,lB0 hil⟩;obtain⟨ad,rfl,had,hc⟩:=uN (HL.out.kept HK.out (fun _ _ z=>z)) (by omega) i x hx;have p7:=hc 7 _ rfl;have p3:=hc 3 _ rfl;have p4:=hc 4 _ rfl;have p9:=hc 9 _ rfl;rw[add_lit _ (by decide)]at p7 p3 p4 p9;have hd:(l.take 60).drop i=x::(l.take 60).drop (i+1):=aJ.drop_cons (by rw[List.getElem?_take,if_pos FV];exact hx);rw[hd,List.all_cons]at HE;obtain⟨k1,k2,k3,k4⟩:=FT.out x (lC0 hx);unfold maxLen at k1 k2 k3 k4;have BX:=ah (zh (x:=x));have BZ:=ah (Ak (x:=x));have hbad:iC x=false->lV l=false:=fun h=>by rw[HE.out,h,Bool.false_and]
    have HBAD:=ah hbad;clear hbad;obtain⟨xk,⟨ak,and',key,to,at',an,oA,oc,ops⟩,fr,body⟩:=x;dsimp only at p7 p3 p4 p9 k1 k2 k3 k4;obtain⟨n1,e1⟩:∃n,ops.length=n:=⟨_,rfl⟩;rw[e1]at k1 p7;have Eo:=ah (show¬20<n1->¬100<key.size->¬100<to.size->¬3000<body.size->iC ⟨xk,⟨ak,and',key,to,at',an,oA,oc,ops⟩,fr,body⟩=true by rw[<-e1];exact BZ.out);have uO:=ah (show 20<n1\/100<key.size\/100<to.size\/3000<body.size->iC ⟨xk,⟨ak,and',key,to,at',an,oA,oc,ops⟩,fr,body⟩=false by rw[<-e1];exact BX.out);clear hd hx hc e1 BZ BX;by_cases g1:20<n1
    ·have g1':(20:Int)<(n1:Int):=by omega
     have HF:=ah (HBAD.out (uO.out (.inl g1)));clear g1 k2 k3 k4 p3 p4 p9;go_wp2;go_ret;exact⟨by rw[HF.out];rfl,HK.out⟩
    have g1':¬(20:Int)<(n1:Int):=by omega
    by_cases g2:100<key.size
    ·have g2':(100:Int)<(key.size:Int):=by omega
     have HF:=ah (HBAD.out (uO.out (.inr (.inl g2))));clear g1 g2 k3 k4 p4 p9;go_wp2;go_ret;exact⟨by rw[HF.out];rfl,HK.out⟩
    have g2':¬(100:Int)<(key.size:Int):=by omega
    by_cases g3:100<to.size
    ·have g3':(100:Int)<(to.size:Int):=by omega
     have HF:=ah (HBAD.out (uO.out (.inr (.inr (.inl g3)))));clear g1 g2 g3 k4 p9;go_wp2;go_ret;exact⟨by rw[HF.out];rfl,HK.out⟩
    have g3':¬(100:Int)<(to.size:Int):=by omega
    by_cases g4:3000<body.size
    ·have g4':(3000:Int)<(body.size:Int):=by omega
     have HF:=ah (HBAD.out (uO.out (.inr (.inr (.inr g4)))));clear g1 g2 g3 g4;go_wp2;go_ret;exact⟨by rw[HF.out];rfl,HK.out⟩
    have g4':¬(3000:Int)<(body.size:Int):=by omega
    have BH:=ah (show lV l=((l.take 60).drop (i+1)).all iC by rw[HE.out,Eo.out g1 g2 g3 g4,Bool.true_and]);clear g1 g2 g3 g4;go_wp2;go_roundw
    case rel=>exact⟨i+1,by omega,by omega,by go_num,BH.out,HK.out⟩
    case measure=>simp[intOf];omega
   ·obtain rfl:i=60:=by omega
    have HF:=ah (show lV l=true by rw[HE.out,List.drop_eq_nil_of_le (by rw[List.length_take];omega)];rfl);go_wp2;go_ret;exact⟨by rw[HF.out];rfl,HK.out⟩
  ·obtain rfl:i=l.length:=by omega
   have HF:=ah (show lV l=true by rw[HE.out,List.drop_eq_nil_of_le (by rw[List.length_take];omega)];rfl);go_wp2;go_ret;exact⟨by rw[HF.out];rfl,HK.out⟩

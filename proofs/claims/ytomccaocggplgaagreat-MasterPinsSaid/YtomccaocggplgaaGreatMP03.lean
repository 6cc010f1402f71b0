/- Part 4. -/
import Derived.Test.YtomccaocggplgaaGreatMP02
set_option linter.unusedSimpArgs false
set_option linter.unusedVariables false
set_option maxHeartbeats 32000000
set_option maxRecDepth 100000
namespace Go.Proofs.YtomccaocggplgaaGreat
open Go.RowKit
namespace Mst
open aJ
structure aO where
 id:Int
 at':Int
 left:Int
deriving DecidableEq
def qP(p:aO):List Value:=[.int .i64 p.id,.int .u64 p.at',.int .i64 p.left]
def aS(l:List aO):List Value:=l.flatMap qP
abbrev CJ(p:aO):Value:=.agg #[.int .i64 p.id,.int .u64 p.at',.int .i64 p.left]
theorem iL{w:World}{A:Option Addr}{m:Nat}{l:List aO}(h:Src w 3 A m (aS l))(hm:0<m)(i:Nat)(p:aO)(hp:l[i]? =some p):
  ∃ad,A=some ad/\ad.block<w.heap.size/\w.cell? (ad.add (i*3))=some (.int .i64 p.id)/\w.cell? ⟨(ad.add (i*3)).block,(ad.add (i*3)).off+1,none⟩=some (.int .u64 p.at')/\w.cell? ⟨(ad.add (i*3)).block,(ad.add (i*3)).off+2,none⟩=some (.int .i64 p.left):=by
 obtain⟨ad,rfl,had,hcell⟩:=h.2 hm;have k0:(aS l)[i*3]? =some (.int .i64 p.id):=by unfold aS;rw[flat_get qP 3 (by decide) (fun _=>rfl),show i*3/3=i by omega,show i*3%3=0 by omega,hp];rfl
 have k1:(aS l)[i*3+1]? =some (.int .u64 p.at'):=by unfold aS;rw[flat_get qP 3 (by decide) (fun _=>rfl),show(i*3+1)/3=i by omega,show(i*3+1)%3=1 by omega,hp];rfl
 have k2:(aS l)[i*3+2]? =some (.int .i64 p.left):=by unfold aS;rw[flat_get qP 3 (by decide) (fun _=>rfl),show(i*3+2)/3=i by omega,show(i*3+2)%3=2 by omega,hp];rfl
 refine⟨ad,rfl,had,hcell _ _ k0,?_,?_⟩
 ·rw[<-add_lit _ (by omega),add_add];exact hcell _ _ k1
 ·rw[<-add_lit _ (by omega),add_add];exact hcell _ _ k2
theorem enters{f:FuncId}{fn:Func}{c:Code}(hf:Tryz.prog.funcs[f]? =some fn)(hname:(fn.name== "runtime.NumGoroutine")=false)(hb:fn.body=some c)(args:Array Value)(w:World):
  (callFunc f args).run Tryz.prog w=.ok (.enter f args) w:=by
 have h1:fn.name≠ "runtime.NumGoroutine" :=by simpa using hname
 simp[callFunc,hf,h1,hb]
def iF{α:Type}(p:α->Bool):List α->Nat->Int
 |[],_=> -1
 |x::l,i=>if p x=true then i else iF p l (i+1)
theorem BI{α:Type}(p:α->Bool){l:List α}{i:Nat}{x:α}(h:l[i]? =some x):iF p (l.drop i) i=if p x=true then (i:Int)else iF p (l.drop (i+1)) (i+1):=by obtain⟨hi,rfl⟩:=lD0.1 h;rw[List.drop_eq_getElem_cons hi,iF]
theorem CQ{α:Type}(p:α->Bool)(l:List α)(i:Nat):decide (0<=iF p l i)=l.any p:=by
 induction l generalizing i with
 |nil=>simp[iF]
 |cons x l ih=>
  rw[iF,List.any_cons];cases hx:p x
  ·rw[if_neg (by simp),ih,Bool.false_or]
  ·rw[if_pos rfl,Bool.true_or];simp
theorem UE(w:World)(A:Option Addr)(c:Nat)(l:List Int)(g:Nat)(cap:Value)(p:Int->Bool)(eg:∀args w,(callFunc g args).run Tryz.prog w=.ok (.enter g args) w)(hl:Src w 1 A l.length (ints l))(hlen:l.length<=1000000)
  (hf:∀W x,Kept aj w W->x∈l->Calls Tryz.prog g #[.int .i64 x,cap] W fun e W'=>e=.returned (.bool (p x))/\Kept aj W W'):
  Calls Tryz.prog 223 #[.slice A l.length c,.func (.func g) #[] #[cap]] w fun r w'=>r=.returned (.int .i64 (iF p l 0))/\Kept aj w w':=by
 have HL:=ah hl;clear hl;have gQ:=ah hf;clear hf;obtain⟨r,hr⟩:∃r,iF p l 0=r:=⟨_,rfl⟩;rw[hr];have HR:=ah hr;clear hr;go_enter Tryz.func223,Tryz.ntmps223;go_wp2_with fail;go_loopw [5,8] (fun v5 v8 wr=>∃i:Nat,i<=l.length/\v8=.int .i64 i/\r=iF p (l.drop i) i/\Kept aj w wr) (fun _ v8 _=>l.length-(intOf v8).toNat)
 case atStart=>exact⟨0,Nat.zero_le _,rfl,HR.out.symm,Kept.refl _ _⟩
 case round=>
  obtain⟨i,hi,rfl,hrr,hk⟩:=hrel;have HK:=ah hk;clear hk;by_cases hil:i<l.length
  ·obtain⟨x,hx⟩:∃x,l[i]? =some x:=⟨_,lB0 hil⟩;have hsa:=BI p hx;obtain⟨ad,rfl,hl1,x0⟩:=qZ (HL.out.kept HK.out (fun _ _ x=>x)) (by omega) i x hx;have hcall:=gQ.out wr x HK.out (lC0 hx);rw[hsa]at hrr;obtain⟨t,ht⟩:∃t,p x=t:=⟨_,rfl⟩;rw[ht]at hcall hrr;clear hsa ht hx;have HC:=ah hcall;clear hcall;have HRR:=ah hrr;clear hrr;go_wp2_with fail;refine HC.out.mono ?_;rintro e w5 ⟨rfl,hk0⟩;have dB:=ah (HK.out.then hk0);clear hk0;cases t
   ·have hrf:=HRR.out;rw[if_neg (by simp)]at hrf;have nP:=ah hrf;clear hrf HRR;go_wp2;go_roundw
    case rel=>exact⟨i+1,by omega,by go_num,nP.out,dB.out⟩
    case measure=>simp[intOf];omega
   ·have hrf:=HRR.out;rw[if_pos rfl]at hrf;have nP:=ah hrf;clear hrf HRR;go_wp2;go_ret;exact⟨by rw[nP.out];rfl,dB.out⟩
  ·obtain rfl:i=l.length:=by omega
   rw[List.drop_length,iF]at hrr;have HRR:=ah hrr;clear hrr;go_wp2;go_ret;exact⟨by rw[HRR.out];rfl,HK.out⟩
theorem UF(w:World)(A:Option Addr)(c:Nat)(l:List Int)(g:Nat)(cap:Value)(p:Int->Bool)(eg:∀args w,(callFunc g args).run Tryz.prog w=.ok (.enter g args) w)(hl:Src w 1 A l.length (ints l))(hlen:l.length<=1000000)
  (hf:∀W x,Kept aj w W->x∈l->Calls Tryz.prog g #[.int .i64 x,cap] W fun e W'=>e=.returned (.bool (p x))/\Kept aj W W'):
  Calls Tryz.prog 150 #[.slice A l.length c,.func (.func g) #[] #[cap]] w fun r w'=>r=.returned (.bool (l.any p))/\Kept aj w w':=by
 have hi:=UE w A c l g cap p eg hl hlen hf;have ha:=CQ p l 0;obtain⟨k,hk⟩:∃k,iF p l 0=k:=⟨_,rfl⟩;rw[hk]at hi ha;rw[<-ha];have HI:=ah hi;clear hi hk hf hl ha eg;go_enter Tryz.func150,Tryz.ntmps150;go_wp2_with fail;refine HI.out.mono ?_;rintro e w2 ⟨rfl,hk⟩;have HK:=ah hk;clear hk;go_wp2;go_ret;exact⟨by simp,HK.out⟩
theorem UG(w:World)(A:Option Addr)(c:Nat)(l:List Mem)(g:Nat)(cap:Value)(p:Mem->Bool)(eg:∀args w,(callFunc g args).run Tryz.prog w=.ok (.enter g args) w)(hl:Src w 2 A l.length (aU l))(hlen:l.length<=1000000)
  (hf:∀W x,Kept aj w W->x∈l->Calls Tryz.prog g #[jH x,cap] W fun e W'=>e=.returned (.bool (p x))/\Kept aj W W'):
  Calls Tryz.prog 184 #[.slice A l.length c,.func (.func g) #[] #[cap]] w fun r w'=>r=.returned (.int .i64 (iF p l 0))/\Kept aj w w':=by
 have HL:=ah hl;clear hl;have gQ:=ah hf;clear hf;obtain⟨r,hr⟩:∃r,iF p l 0=r:=⟨_,rfl⟩;rw[hr];have HR:=ah hr;clear hr;go_enter Tryz.func184,Tryz.ntmps184;go_wp2_with fail;go_loopw [5,8] (fun v5 v8 wr=>∃i:Nat,i<=l.length/\v8=.int .i64 i/\r=iF p (l.drop i) i/\Kept aj w wr) (fun _ v8 _=>l.length-(intOf v8).toNat)
 case atStart=>exact⟨0,Nat.zero_le _,rfl,HR.out.symm,Kept.refl _ _⟩
 case round=>
  obtain⟨i,hi,rfl,hrr,hk⟩:=hrel;have HK:=ah hk;clear hk;by_cases hil:i<l.length
  ·obtain⟨x,hx⟩:∃x,l[i]? =some x:=⟨_,lB0 hil⟩;have hsa:=BI p hx;obtain⟨ad,rfl,hl1,x0,x1⟩:=jr (HL.out.kept HK.out (fun _ _ x=>x)) (by omega) i x hx;have hcall:=gQ.out wr x HK.out (lC0 hx);rw[hsa]at hrr;obtain⟨t,ht⟩:∃t,p x=t:=⟨_,rfl⟩;rw[ht]at hcall hrr;clear hsa ht hx;have HC:=ah hcall;clear hcall;have HRR:=ah hrr;clear hrr;go_wp2_with fail;refine HC.out.mono ?_;rintro e w5 ⟨rfl,hk0⟩;have dB:=ah (HK.out.then hk0);clear hk0;cases t
   ·have hrf:=HRR.out;rw[if_neg (by simp)]at hrf;have nP:=ah hrf;clear hrf HRR;go_wp2;go_roundw
    case rel=>exact⟨i+1,by omega,by go_num,nP.out,dB.out⟩
    case measure=>simp[intOf];omega
   ·have hrf:=HRR.out;rw[if_pos rfl]at hrf;have nP:=ah hrf;clear hrf HRR;go_wp2;go_ret;exact⟨by rw[nP.out];rfl,dB.out⟩
  ·obtain rfl:i=l.length:=by omega
   rw[List.drop_length,iF]at hrr;have HRR:=ah hrr;clear hrr;go_wp2;go_ret;exact⟨by rw[HRR.out];rfl,HK.out⟩
theorem CS(w:World)(A:Option Addr)(c:Nat)(l:List Mem)(g:Nat)(cap:Value)(p:Mem->Bool)(eg:∀args w,(callFunc g args).run Tryz.prog w=.ok (.enter g args) w)(hl:Src w 2 A l.length (aU l))(hlen:l.length<=1000000)
  (hf:∀W x,Kept aj w W->x∈l->Calls Tryz.prog g #[jH x,cap] W fun e W'=>e=.returned (.bool (p x))/\Kept aj W W'):
  Calls Tryz.prog 104 #[.slice A l.length c,.func (.func g) #[] #[cap]] w fun r w'=>r=.returned (.bool (l.any p))/\Kept aj w w':=by
 have hi:=UG w A c l g cap p eg hl hlen hf;have ha:=CQ p l 0;obtain⟨k,hk⟩:∃k,iF p l 0=k:=⟨_,rfl⟩;rw[hk]at hi ha;rw[<-ha];have HI:=ah hi;clear hi hk hf hl ha eg;go_enter Tryz.func104,Tryz.ntmps104;go_wp2_with fail;refine HI.out.mono ?_;rintro e w2 ⟨rfl,hk⟩;have HK:=ah hk;clear hk;go_wp2;go_ret;exact⟨by simp,HK.out⟩
theorem uT(w:World)(A:Option Addr)(c:Nat)(l:List aO)(g:Nat)(cap:Value)(p:aO->Bool)(eg:∀args w,(callFunc g args).run Tryz.prog w=.ok (.enter g args) w)(hl:Src w 3 A l.length (aS l))(hlen:l.length<=1000000)
  (hf:∀W x,Kept aj w W->x∈l->Calls Tryz.prog g #[CJ x,cap] W fun e W'=>e=.returned (.bool (p x))/\Kept aj W W'):
  Calls Tryz.prog 170 #[.slice A l.length c,.func (.func g) #[] #[cap]] w fun r w'=>r=.returned (.int .i64 (iF p l 0))/\Kept aj w w':=by
 have HL:=ah hl;clear hl;have gQ:=ah hf;clear hf;obtain⟨r,hr⟩:∃r,iF p l 0=r:=⟨_,rfl⟩;rw[hr];have HR:=ah hr;clear hr;go_enter Tryz.func170,Tryz.ntmps170;go_wp2_with fail;go_loopw [5,8] (fun v5 v8 wr=>∃i:Nat,i<=l.length/\v8=.int .i64 i/\r=iF p (l.drop i) i/\Kept aj w wr) (fun _ v8 _=>l.length-(intOf v8).toNat)
 case atStart=>exact⟨0,Nat.zero_le _,rfl,HR.out.symm,Kept.refl _ _⟩
 case round=>
  obtain⟨i,hi,rfl,hrr,hk⟩:=hrel;have HK:=ah hk;clear hk;by_cases hil:i<l.length
  ·obtain⟨x,hx⟩:∃x,l[i]? =some x:=⟨_,lB0 hil⟩;have hsa:=BI p hx;obtain⟨ad,rfl,hl1,x0,x1,x2⟩:=iL (HL.out.kept HK.out (fun _ _ x=>x)) (by omega) i x hx;have hcall:=gQ.out wr x HK.out (lC0 hx);rw[hsa]at hrr;obtain⟨t,ht⟩:∃t,p x=t:=⟨_,rfl⟩;rw[ht]at hcall hrr;clear hsa ht hx;have HC:=ah hcall;clear hcall;have HRR:=ah hrr;clear hrr;go_wp2_with fail;refine HC.out.mono ?_;rintro e w5 ⟨rfl,hk0⟩;have dB:=ah (HK.out.then hk0);clear hk0;cases t
   ·have hrf:=HRR.out;rw[if_neg (by simp)]at hrf;have nP:=ah hrf;clear hrf HRR;go_wp2;go_roundw
    case rel=>exact⟨i+1,by omega,by go_num,nP.out,dB.out⟩
    case measure=>simp[intOf];omega
   ·have hrf:=HRR.out;rw[if_pos rfl]at hrf;have nP:=ah hrf;clear hrf HRR;go_wp2;go_ret;exact⟨by rw[nP.out];rfl,dB.out⟩
  ·obtain rfl:i=l.length:=by omega
   rw[List.drop_length,iF]at hrr;have HRR:=ah hrr;clear hrr;go_wp2;go_ret;exact⟨by rw[HRR.out];rfl,HK.out⟩
theorem UH(w:World)(A:Option Addr)(c:Nat)(l:List aO)(g:Nat)(cap:Value)(p:aO->Bool)(eg:∀args w,(callFunc g args).run Tryz.prog w=.ok (.enter g args) w)(hl:Src w 3 A l.length (aS l))(hlen:l.length<=1000000)
  (hf:∀W x,Kept aj w W->x∈l->Calls Tryz.prog g #[CJ x,cap] W fun e W'=>e=.returned (.bool (p x))/\Kept aj W W'):
  Calls Tryz.prog 125 #[.slice A l.length c,.func (.func g) #[] #[cap]] w fun r w'=>r=.returned (.bool (l.any p))/\Kept aj w w':=by
 have hi:=uT w A c l g cap p eg hl hlen hf;have ha:=CQ p l 0;obtain⟨k,hk⟩:∃k,iF p l 0=k:=⟨_,rfl⟩;rw[hk]at hi ha;rw[<-ha];have HI:=ah hi;clear hi hk hf hl ha eg;go_enter Tryz.func125,Tryz.ntmps125;go_wp2_with fail;refine HI.out.mono ?_;rintro e w2 ⟨rfl,hk⟩;have HK:=ah hk;clear hk;go_wp2;go_ret;exact⟨by simp,HK.out⟩
def kJ(f:Nat->Int->Int):List Int->Nat->Int
 |[],_=>0
 |x::l,i=>if f i x=0 then kJ f l (i+1)else f i x
theorem Xm(f:Nat->Int->Int){l:List Int}{i:Nat}{x:Int}(h:l[i]? =some x):kJ f (l.drop i) i=if f i x=0 then kJ f (l.drop (i+1)) (i+1)else f i x:=by obtain⟨hi,rfl⟩:=lD0.1 h;rw[List.drop_eq_getElem_cons hi,kJ]
theorem Oz(w:World)(A:Option Addr)(c:Nat)(l:List Int)(g:Nat)(caps:Array Value)(f:Nat->Int->Int)(eg:∀args w,(callFunc g args).run Tryz.prog w=.ok (.enter g args) w)(hl:Src w 1 A l.length (ints l))(hlen:l.length<=1000000)
  (hf:∀W i x,Kept aj w W->l[i]? =some x->Calls Tryz.prog g (#[.int .i64 i,.int .i64 x]++caps) W fun e W'=>e=.returned (.int .i64 (f i x))/\Kept aj W W'):
  Calls Tryz.prog 219 #[.slice A l.length c,.func (.func g) #[] caps] w fun r w'=>r=.returned (.int .i64 (kJ f l 0))/\Kept aj w w':=by
 have HL:=ah hl;clear hl;have gQ:=ah hf;clear hf;obtain⟨r,hr⟩:∃r,kJ f l 0=r:=⟨_,rfl⟩;rw[hr];have HR:=ah hr;clear hr;go_enter Tryz.func219,Tryz.ntmps219;go_wp2_with fail;go_loopw [5,6,7,10] (fun v5 v6 v7 v10 wr=>∃i:Nat,i<=l.length/\v10=.int .i64 i/\r=kJ f (l.drop i) i/\Kept aj w wr) (fun _ _ _ v10 _=>l.length-(intOf v10).toNat)
 case atStart=>exact⟨0,Nat.zero_le _,rfl,HR.out.symm,Kept.refl _ _⟩
 case round=>
  obtain⟨i,hi,rfl,hrr,hk⟩:=hrel;have HK:=ah hk;clear hk;by_cases hil:i<l.length
  ·obtain⟨x,hx⟩:∃x,l[i]? =some x:=⟨_,lB0 hil⟩;have hsa:=Xm f hx;obtain⟨ad,rfl,hl1,x0⟩:=qZ (HL.out.kept HK.out (fun _ _ x=>x)) (by omega) i x hx;have hcall:=gQ.out wr i x HK.out hx;rw[hsa]at hrr;obtain⟨t,ht⟩:∃t,f i x=t:=⟨_,rfl⟩;rw[ht]at hcall hrr;clear hsa ht hx;have HC:=ah hcall;clear hcall;have HRR:=ah hrr;clear hrr;go_wp2_with fail;refine HC.out.mono ?_;rintro e w5 ⟨rfl,hk0⟩;have dB:=ah (HK.out.then hk0);clear hk0;by_cases ht0:t=0
   ·have hrf:=HRR.out;rw[if_pos ht0]at hrf;have nP:=ah hrf;clear hrf HRR;have ht1:(t !=0)=false:=by simp[ht0]
    clear ht0;go_wp2;go_roundw
    case rel=>exact⟨i+1,by omega,by go_num,nP.out,dB.out⟩
    case measure=>simp[intOf];omega
   ·have hrf:=HRR.out;rw[if_neg ht0]at hrf;have nP:=ah hrf;clear hrf HRR;have ht1:(t !=0)=true:=by simpa using ht0
    clear ht0;go_wp2;go_ret;exact⟨by rw[nP.out];rfl,dB.out⟩
  ·obtain rfl:i=l.length:=by omega
   rw[List.drop_length,kJ]at hrr;have HRR:=ah hrr;clear hrr;go_wp2;go_ret;exact⟨by rw[HRR.out];rfl,HK.out⟩
end Mst
namespace Mst
open aJ
def xZ(x:Int):Int:=if x<0\/1073741824<x then 5 else 0
def iG(l:List Int):Int:=kJ (fun _ x=>xZ x) l 0
theorem Rn(w:World)(i x:Int):Calls Tryz.prog 221 #[.int .i64 i,.int .i64 x] w fun e w'=>e=.returned (.int .i64 (xZ x))/\Kept aj w w':=by
 obtain⟨r,hr⟩:∃r,xZ x=r:=⟨_,rfl⟩;rw[hr];have HR:=ah hr;clear hr;by_cases h1:x<0
 ·go_enter Tryz.func221,Tryz.ntmps221;go_wp2;go_ret;exact⟨by rw[<-HR.out,xZ,if_pos (.inl h1)];rfl,by(repeat'(first|(with_reducible first|exact ak|apply au|apply ay|apply aA|apply aB)|(right;simp;done)))⟩
 by_cases h2:1073741824<x
 ·go_enter Tryz.func221,Tryz.ntmps221;go_wp2;go_ret;exact⟨by rw[<-HR.out,xZ,if_pos (.inr h2)];rfl,by(repeat'(first|(with_reducible first|exact ak|apply au|apply ay|apply aA|apply aB)|(right;simp;done)))⟩
 go_enter Tryz.func221,Tryz.ntmps221;go_wp2;go_ret;exact⟨by rw[<-HR.out,xZ,if_neg (by omega)];rfl,by(repeat'(first|(with_reducible first|exact ak|apply au|apply ay|apply aA|apply aB)|(right;simp;done)))⟩
theorem qo(w:World)(A:Option Addr)(c:Nat)(l:List Int)(hl:Src w 1 A l.length (ints l))(hlen:l.length<=1000000):
  Calls Tryz.prog 145 #[.slice A l.length c] w fun e w'=>e=.returned (.int .i64 (iG l))/\Kept aj w w':=by
 have h:=Oz w A c l 221 #[] (fun _ x=>xZ x) (fun args W=>enters Tryz.func221 (by kernel_rfl) rfl args W) hl hlen (fun W i x _ _=>Rn W i x);have hr:kJ (fun _ x=>xZ x) l 0=iG l:=rfl;rw[hr]at h;obtain⟨r,hr⟩:∃r,iG l=r:=⟨_,rfl⟩;rw[hr]at h⊢;have H:=ah h;clear h hr hl;go_enter Tryz.func145,Tryz.ntmps145;go_wp2_with fail;refine H.out.mono ?_;rintro e w2 ⟨rfl,hk⟩;have HK:=ah hk;clear hk;go_wp2;go_ret;exact⟨rfl,HK.out⟩
def wu(l:List Int)(i:Nat)(x:Int):Int:=if x<0\/4<=x then 1 else if 0<i/\x<=l.getD (i-1) 0 then 18 else 0
def nO(l:List Int):Int:=if 4<l.length then 6 else kJ (wu l) l 0
theorem UI(w:World)(A:Option Addr)(c:Nat)(l:List Int)(b i:Nat)(x:Int)(hb:Has w b 71 #[.slice A l.length c])(hl:Src w 1 A l.length (ints l))(hlen:l.length<=1000000)(hx:l[i]? =some x):
  Calls Tryz.prog 220 #[.int .i64 i,.int .i64 x,.pointer (some ⟨b,0,none⟩)] w fun e w'=>e=.returned (.int .i64 (wu l i x))/\Kept aj w w':=by
 have c0:=hb.cell 0;simp only[lF0,List.getElem?_cons_zero]at c0;clear hb;have hi:i<l.length:=(lD0.1 hx).1;clear hx;obtain⟨r,hr⟩:∃r,wu l i x=r:=⟨_,rfl⟩;rw[hr];have HR:=ah hr;clear hr;by_cases h1:x<0
 ·clear hl c0;go_enter Tryz.func220,Tryz.ntmps220;go_wp2;go_ret;exact⟨by rw[<-HR.out,wu,if_pos (.inl h1)];rfl,by(repeat'(first|(with_reducible first|exact ak|apply au|apply ay|apply aA|apply aB)|(right;simp;done)))⟩
 by_cases h2:4<=x
 ·clear hl c0;go_enter Tryz.func220,Tryz.ntmps220;go_wp2;go_ret;exact⟨by rw[<-HR.out,wu,if_pos (.inr h2)];rfl,by(repeat'(first|(with_reducible first|exact ak|apply au|apply ay|apply aA|apply aB)|(right;simp;done)))⟩
 by_cases h3:i=0
 ·subst h3;clear hl;go_enter Tryz.func220,Tryz.ntmps220;go_wp2;go_ret;exact⟨by rw[<-HR.out,wu,if_neg (by omega),if_neg (by omega)];rfl,by(repeat'(first|(with_reducible first|exact ak|apply au|apply ay|apply aA|apply aB)|(right;simp;done)))⟩
 obtain⟨y,hy⟩:∃y,l[i-1]? =some y:=⟨_,lB0 (by omega)⟩;have hg:l.getD (i-1) 0=y:=by rw[List.getD_eq_getElem?_getD,hy];rfl
 have HG:=ah hg;clear hg;obtain⟨ad,rfl,had,e0⟩:=qZ hl (by omega) (i-1) y hy;obtain⟨k,rfl⟩:∃k,i=k+1:=⟨i-1,by omega⟩;rw[Nat.add_sub_cancel]at e0;have hw:IntKind.i64.wrap ((k:Int)+1-1)=k:=by rw[Int.add_sub_cancel];exact IntWalk.i64_in _ (by omega)
 clear hl hy;by_cases h4:x<=y
 ·go_enter Tryz.func220,Tryz.ntmps220;go_wp2;go_ret;exact⟨by rw[<-HR.out,wu,if_neg (by omega),if_pos (by rw[HG.out];omega)];rfl,by(repeat'(first|(with_reducible first|exact ak|apply au|apply ay|apply aA|apply aB)|(right;simp;done)))⟩
 ·go_enter Tryz.func220,Tryz.ntmps220;go_wp2;go_ret;exact⟨by rw[<-HR.out,wu,if_neg (by omega),if_neg (by rw[HG.out];omega)];rfl,by(repeat'(first|(with_reducible first|exact ak|apply au|apply ay|apply aA|apply aB)|(right;simp;done)))⟩
theorem Xn(w:World)(A:Option Addr)(c:Nat)(l:List Int)(hl:Src w 1 A l.length (ints l))(hlen:l.length<=1000000):
  Calls Tryz.prog 144 #[.slice A l.length c] w fun e w'=>e=.returned (.int .i64 (nO l))/\Kept aj w w':=by
 obtain⟨r,hr⟩:∃r,nO l=r:=⟨_,rfl⟩;rw[hr];have HR:=ah hr;clear hr;by_cases h1:4<l.length
 ·clear hl;go_enter Tryz.func144,Tryz.ntmps144;go_wp2;go_ret;exact⟨by rw[<-HR.out,nO,if_pos h1];rfl,by(repeat'(first|(with_reducible first|exact ak|apply au|apply ay|apply aA|apply aB)|(right;simp;done)))⟩
 have hb:=Has.new w 71 #[.slice A l.length c];have hk1:Kept aj w (w.alloc (.cells #[.slice A l.length c] 71)):=by(repeat'(first|(with_reducible first|exact ak|apply au|apply ay|apply aA|apply aB)|(right;simp;done)))
 have h:=Oz (w.alloc (.cells #[.slice A l.length c] 71)) A c l 220 #[.pointer (some ⟨w.heap.size,0,none⟩)] (wu l) (fun args W=>enters Tryz.func220 (by kernel_rfl) rfl args W) (hl.kept hk1 (fun _ _ z=>z)) hlen
  (fun W i x hW hx=>UI W A c l w.heap.size i x (hb.kept hW (fun z=>z)) (hl.kept (hk1.then hW) (fun _ _ z=>z)) hlen hx)
 have hr2:kJ (wu l) l 0=r:=by rw[<-HR.out,nO,if_neg h1]
 rw[hr2]at h;have H:=ah h;clear h hr2 hb hk1 hl HR;go_enter Tryz.func144,Tryz.ntmps144;go_wp2_with fail;refine H.out.mono ?_;rintro e w2 ⟨rfl,hk⟩;have hk2:=Kept.then (F:=aj) (a:=w) (by(repeat'(first|(with_reducible first|exact ak|apply au|apply ay|apply aA|apply aB)|(right;simp;done)))) hk;have HK:=ah hk2;clear hk hk2;go_wp2;go_ret;exact⟨rfl,HK.out⟩
structure kP where
 cl:Int
 req:Int
 e:Int
 pin:Int
deriving DecidableEq
abbrev pI(a:kP):Value:=.agg #[.int .i64 a.cl,.int .i64 a.req,.int .i64 a.e,.int .i64 a.pin]
def saidE(a:kP):Int:=if a.cl<0\/3<=a.cl then 1 else if iG [a.req,a.pin]≠0 then iG [a.req,a.pin]else if a.e<0\/21<a.e then 1 else 0
end Mst
namespace Mst
open aJ
theorem OA{w:World}(a b:Int):Src (w.alloc (.cells #[.int .i64 a,.int .i64 b] 3)) 1 (some ⟨w.heap.size,0,none⟩) 2 (ints [a,b]):=by have h:=Has.new w 3 #[.int .i64 a,.int .i64 b];exact Src.dA h rfl
theorem BJ{w:World}(a:Int):Src (w.alloc (.cells #[.int .i64 a] 3)) 1 (some ⟨w.heap.size,0,none⟩) 1 (ints [a]):=by have h:=Has.new w 3 #[.int .i64 a];exact Src.dA h rfl
theorem aaV(w:World)(a:kP):Calls Tryz.prog 147 #[pI a] w fun e w'=>e=.returned (.int .i64 (saidE a))/\Kept aj w w':=by
 obtain⟨cl,req,e,pin⟩:=a;have hrg:=qo (World.alloc (w.alloc (.cells #[.int .i64 cl,.int .i64 req,.int .i64 e,.int .i64 pin] 76)) (.cells #[.int .i64 req,.int .i64 pin] 3)) (some ⟨w.heap.size+1,0,none⟩) 2 [req,pin] (by have h:=OA (w:=w.alloc (.cells #[.int .i64 cl,.int .i64 req,.int .i64 e,.int .i64 pin] 76)) req pin;rwa[size_alloc]at h) (by simp);obtain⟨r,hr⟩:∃r,saidE ⟨cl,req,e,pin⟩=r:=⟨_,rfl⟩;rw[hr];unfold saidE at hr;dsimp only at hr⊢;obtain⟨g,hg⟩:∃g,iG [req,pin]=g:=⟨_,rfl⟩;rw[hg]at hr hrg;simp only[List.length_cons,List.length_nil]at hrg;have HG:=ah hrg;clear hrg hg;have HR:=ah hr;clear hr;by_cases h1:cl<0
 ·go_enter Tryz.func147,Tryz.ntmps147;go_wp2;go_ret;exact⟨by rw[<-HR.out,if_pos (.inl h1)];rfl,by(repeat'(first|(with_reducible first|exact ak|apply au|apply ay|apply aA|apply aB)|(right;simp;done)))⟩
 by_cases h2:3<=cl
 ·go_enter Tryz.func147,Tryz.ntmps147;go_wp2;go_ret;exact⟨by rw[<-HR.out,if_pos (.inr h2)];rfl,by(repeat'(first|(with_reducible first|exact ak|apply au|apply ay|apply aA|apply aB)|(right;simp;done)))⟩
 have hr2:=HR.out;rw[if_neg (by omega)]at hr2;clear HR;by_cases hg0:g=0;rotate_left
 ·have hg1:(g !=0)=true:=by simpa using hg0
  rw[if_pos hg0]at hr2;subst hr2;clear hg0;go_enter Tryz.func147,Tryz.ntmps147;go_wp2_with fail;refine HG.out.mono ?_;rintro e w2 ⟨rfl,hk⟩;have hk2:=Kept.then (F:=aj) (a:=w) (by(repeat'(first|(with_reducible first|exact ak|apply au|apply ay|apply aA|apply aB)|(right;simp;done)))) hk;have HK:=ah hk2;clear hk hk2;go_wp2;go_ret;exact⟨rfl,HK.out⟩
 subst hg0;rw[if_neg (by simp)]at hr2;have HR:=ah hr2;clear hr2;by_cases h3:e<0
 ·go_enter Tryz.func147,Tryz.ntmps147;go_wp2_with fail;refine HG.out.mono ?_;rintro e w2 ⟨rfl,hk⟩;have hk2:=Kept.then (F:=aj) (a:=w) (by(repeat'(first|(with_reducible first|exact ak|apply au|apply ay|apply aA|apply aB)|(right;simp;done)))) hk;have hx:=(((Has.new w 76 #[.int .i64 cl,.int .i64 req,.int .i64 e,.int .i64 pin]).alloc (.cells #[.int .i64 req,.int .i64 pin] 3)).kept hk (fun z=>z)).cell 2;simp only[lF0,List.getElem?_cons_zero,List.getElem?_cons_succ]at hx;have HK:=ah hk2;clear hk hk2;go_wp2;go_ret;exact⟨by rw[<-HR.out,if_pos (.inl h3)];rfl,HK.out⟩
 by_cases h4:21<e
 ·go_enter Tryz.func147,Tryz.ntmps147;go_wp2_with fail;refine HG.out.mono ?_;rintro e w2 ⟨rfl,hk⟩;have hk2:=Kept.then (F:=aj) (a:=w) (by(repeat'(first|(with_reducible first|exact ak|apply au|apply ay|apply aA|apply aB)|(right;simp;done)))) hk;have hx:=(((Has.new w 76 #[.int .i64 cl,.int .i64 req,.int .i64 e,.int .i64 pin]).alloc (.cells #[.int .i64 req,.int .i64 pin] 3)).kept hk (fun z=>z)).cell 2;simp only[lF0,List.getElem?_cons_zero,List.getElem?_cons_succ]at hx;have HK:=ah hk2;clear hk hk2;go_wp2;go_ret;exact⟨by rw[<-HR.out,if_pos (.inr h4)];rfl,HK.out⟩
 go_enter Tryz.func147,Tryz.ntmps147;go_wp2_with fail;refine HG.out.mono ?_;rintro e w2 ⟨rfl,hk⟩;have hk2:=Kept.then (F:=aj) (a:=w) (by(repeat'(first|(with_reducible first|exact ak|apply au|apply ay|apply aA|apply aB)|(right;simp;done)))) hk;have hx:=(((Has.new w 76 #[.int .i64 cl,.int .i64 req,.int .i64 e,.int .i64 pin]).alloc (.cells #[.int .i64 req,.int .i64 pin] 3)).kept hk (fun z=>z)).cell 2;simp only[lF0,List.getElem?_cons_zero,List.getElem?_cons_succ]at hx;have HK:=ah hk2;clear hk hk2;go_wp2;go_ret;exact⟨by rw[<-HR.out,if_neg (by omega)];rfl,HK.out⟩
theorem aaW(w:World)(x m:Mem)(b:Nat)(hb:Has w b 56 #[.int .i64 m.1,.int .i64 m.2]):
  Calls Tryz.prog 103 #[jH x,.pointer (some ⟨b,0,none⟩)] w fun e w'=>e=.returned (.bool (decide (x.1=m.1)))/\Kept aj w w':=by
 have c0:=(hb.alloc (.cells #[.int .i64 x.1,.int .i64 x.2] 56)).cell 0;simp only[lF0,List.getElem?_cons_zero,List.getElem?_cons_succ]at c0;clear hb;go_enter Tryz.func103,Tryz.ntmps103;go_wp2;go_ret;exact⟨rfl,by(repeat'(first|(with_reducible first|exact ak|apply au|apply ay|apply aA|apply aB)|(right;simp;done)))⟩
theorem one_any(w:World)(m:Mem)(A:Option Addr)(c:Nat)(l:List Mem)(hl:Src w 2 A l.length (aU l))(hlen:l.length<=1000000):
  Calls Tryz.prog 51 #[jH m,.slice A l.length c] w fun e w'=>e=.returned (.int .i64 (pF m l))/\Kept aj w w':=by
 have hk1:Kept aj w (w.alloc (.cells #[.int .i64 m.1,.int .i64 m.2] 56)):=by(repeat'(first|(with_reducible first|exact ak|apply au|apply ay|apply aA|apply aB)|(right;simp;done)))
 have hb:=Has.new w 56 #[.int .i64 m.1,.int .i64 m.2]
 have hh:=CS _ A c l 103 (.pointer (some ⟨w.heap.size,0,none⟩)) (fun x=>decide (x.1=m.1)) (fun args W=>enters Tryz.func103 (by kernel_rfl) rfl args W) (hl.kept hk1 (fun _ _ z=>z)) hlen
  (fun W x hW _=>aaW W x m w.heap.size (hb.kept hW (fun z=>z)))
 obtain⟨r,hr⟩:∃r,pF m l=r:=⟨_,rfl⟩;rw[hr];unfold pF at hr;obtain⟨t,ht⟩:∃t,(l.any fun x=>decide (x.1=m.1))=t:=⟨_,rfl⟩;rw[ht]at hr hh;clear ht hl hb hk1;obtain⟨m1,m2⟩:=m;dsimp only at*
 have HH:=ah hh;clear hh;have HR:=ah hr;clear hr;by_cases h1:m1<0
 ·go_enter Tryz.func51,Tryz.ntmps51;go_wp2;go_ret;exact⟨by rw[<-HR.out,if_pos (.inl h1)];rfl,by(repeat'(first|(with_reducible first|exact ak|apply au|apply ay|apply aA|apply aB)|(right;simp;done)))⟩
 by_cases h2:4<=m1
 ·go_enter Tryz.func51,Tryz.ntmps51;go_wp2;go_ret;exact⟨by rw[<-HR.out,if_pos (.inr h2)];rfl,by(repeat'(first|(with_reducible first|exact ak|apply au|apply ay|apply aA|apply aB)|(right;simp;done)))⟩
 have hr2:=HR.out;rw[if_neg (by omega)]at hr2;clear HR;have HR:=ah hr2;clear hr2;by_cases h3:m2<1
 ·go_enter Tryz.func51,Tryz.ntmps51;go_wp2;go_ret;exact⟨by rw[<-HR.out,if_pos (.inl h3)];rfl,by(repeat'(first|(with_reducible first|exact ak|apply au|apply ay|apply aA|apply aB)|(right;simp;done)))⟩
 by_cases h4:1073741824<m2
 ·go_enter Tryz.func51,Tryz.ntmps51;go_wp2;go_ret;exact⟨by rw[<-HR.out,if_pos (.inr h4)];rfl,by(repeat'(first|(with_reducible first|exact ak|apply au|apply ay|apply aA|apply aB)|(right;simp;done)))⟩
 have hr2:=HR.out;rw[if_neg (by omega)]at hr2;clear HR;have HR:=ah hr2;clear hr2;go_enter Tryz.func51,Tryz.ntmps51;go_wp2_with fail;refine HH.out.mono ?_;rintro e w2 ⟨rfl,hk⟩;have hk2:=Kept.then (F:=aj) (a:=w) (by(repeat'(first|(with_reducible first|exact ak|apply au|apply ay|apply aA|apply aB)|(right;simp;done)))) hk;have HK:=ah hk2;clear hk hk2;cases t
 ·have hr3:=HR.out;rw[if_neg (by simp)]at hr3;subst hr3;clear HR;go_wp2;go_ret;exact⟨rfl,HK.out⟩
 ·have hr3:=HR.out;rw[if_pos rfl]at hr3;subst hr3;clear HR;go_wp2;go_ret;exact⟨rfl,HK.out⟩
theorem IW(w:World)(b:Ops.Batch)(A:Option Addr)(c:Nat)(ts:Int)(hs:Src w 3 A b.ops.length (Ops.cells b.ops)):
  Calls Tryz.prog 146 #[.agg #[.int .i64 b.cl,.int .i64 b.req,.slice A b.ops.length c,.int .u64 ts]] w fun e w'=>e=.returned (.int .i64 (Ops.chk b))/\Kept aj w w':=by
 have h:=fun W (hW:Kept aj w W)=>Ops.CG W b A c (hs.kept hW (fun _ _ z=>z));obtain⟨cl,req,ops⟩:=b;dsimp only[Ops.Hg]at*
 obtain⟨r,hr⟩:∃r,Ops.chk ⟨cl,req,ops⟩=r:=⟨_,rfl⟩;rw[hr]at h⊢;have H:=ah h;clear h hr hs;go_enter Tryz.func146,Tryz.ntmps146;go_wp2_with fail;refine(H.out _ (by(repeat'(first|(with_reducible first|exact ak|apply au|apply ay|apply aA|apply aB)|(right;simp;done))))).mono ?_;rintro e w2 ⟨rfl,hk⟩;have hk2:=Kept.then (F:=aj) (a:=w) (by(repeat'(first|(with_reducible first|exact ak|apply au|apply ay|apply aA|apply aB)|(right;simp;done)))) hk;have HK:=ah hk2;clear hk hk2;go_wp2;go_ret;exact⟨rfl,HK.out⟩
end Mst
namespace Mst
open aJ
theorem AQ(l:List Mem)(k:Nat):(aU l).take (k*2)=aU (l.take k):=by
 induction l generalizing k with
 |nil=>cases k<;>rfl
 |cons m l ih=>
  cases k with
  |zero=>rfl
  |succ k=>
   rw[show(k+1)*2=k*2+2 by omega,List.take_succ_cons];show List.take (k*2+2) (.int .i64 m.1::.int .i64 m.2::aU l)=.int .i64 m.1::.int .i64 m.2::aU (l.take k);rw[List.take_succ_cons,List.take_succ_cons,ih]
theorem Src.ag1{w:World}{A:Option Addr}{l:List Mem}(h:Src w 2 A l.length (aU l)){k:Nat}(hk:k<=l.length):Src w 2 A (l.take k).length (aU (l.take k)):=by have h1:=h.take hk;rw[AQ]at h1;rwa[List.length_take,Nat.min_eq_left hk]
theorem rU(w:World)(ep fl:Int)(A:Option Addr)(c:Nat)(l:List Mem)(hl:Src w 2 A l.length (aU l))(hlc:l.length<=c)(hlen:l.length<=1000000):
  Calls Tryz.prog 17 #[nC ep A l.length c fl] w fun e w'=>e=.returned (.int .i64 (chk ep l))/\Kept aj w w':=by
 have HL:=ah hl;clear hl;by_cases h1:ep<1
 ·have hr:chk ep l=5:=by unfold chk;rw[if_pos (.inl h1)]
  have HR:=ah hr;clear hr;go_enter Tryz.func17,Tryz.ntmps17;go_wp2;go_ret;exact⟨by rw[HR.out];rfl,(Kept.refl _ _).alloc _⟩
 by_cases h2:1073741824<ep
 ·have hr:chk ep l=5:=by unfold chk;rw[if_pos (.inr h2)]
  have HR:=ah hr;clear hr;go_enter Tryz.func17,Tryz.ntmps17;go_wp2;go_ret;exact⟨by rw[HR.out];rfl,(Kept.refl _ _).alloc _⟩
 by_cases h3:l.length=0
 ·have hr:chk ep l=7:=by unfold chk;rw[if_neg (by omega),if_pos h3]
  have HR:=ah hr;clear hr;rw[h3];clear h3;go_enter Tryz.func17,Tryz.ntmps17;go_wp2;go_ret;exact⟨by rw[HR.out];rfl,(Kept.refl _ _).alloc _⟩
 have h3':((l.length:Int)==0)=false:=by rw[beq_eq_false_iff_ne];omega
 by_cases h4:4<l.length
 ·have hr:chk ep l=6:=by unfold chk;rw[if_neg (by omega),if_neg h3,if_pos h4]
  have HR:=ah hr;clear hr;have h4':(4:Int)<l.length:=by omega
  clear h3;go_enter Tryz.func17,Tryz.ntmps17;go_wp2;go_ret;exact⟨by rw[HR.out];rfl,(Kept.refl _ _).alloc _⟩
 have hr:chk ep l=kH (l.take 0) (l.drop 0):=by unfold chk;rw[if_neg (by omega),if_neg h3,if_neg h4];rfl
 have HR:=ah hr;clear hr;have h4':¬(4:Int)<l.length:=by omega
 have hnew:=Has.new w 25 #[.int .i64 ep,.slice A l.length c,.int .u64 fl];have HN:=ah hnew;clear hnew;clear h3 h4;go_enter Tryz.func17,Tryz.ntmps17;go_wp2_with fail;go_loopw [3,4,5,28] (fun _ _ _ v28 wr=>∃i:Nat,i<=l.length/\v28=.int .i64 i/\Has wr w.heap.size 25 #[.int .i64 ep,.slice A l.length c,.int .u64 fl]/\Kept aj w wr/\chk ep l=kH (l.take i) (l.drop i)) (fun _ _ _ v28 _=>l.length-(intOf v28).toNat)
 case atStart=>exact⟨0,Nat.zero_le _,rfl,HN.out,(Kept.refl _ _).alloc _,HR.out⟩
 case round=>
  obtain⟨i,hi,rfl,hh,hk,he⟩:=hrel;have hlt0:=hh.lt;have hsz:=hk.size;have e0:wr.cell? ⟨w.heap.size,1,none⟩=some (.slice A l.length c):=hh.cell 1;have HH:=ah hh;clear hh;have HK:=ah hk;clear hk;have HE:=ah he;clear he;by_cases hil:i<l.length
  ·obtain⟨m,hm⟩:∃m,l[i]? =some m:=⟨_,lB0 hil⟩;obtain⟨ad,hA,had,d0,d1⟩:=jr (HL.out.kept HK.out (fun _ _ x=>x)) (by omega) i m hm;subst hA;have hone:=fun W (hW:Kept aj wr W)=>one_any W m (some ad) c (l.take i) (Src.ag1 (HL.out.kept (HK.out.then hW) (fun _ _ x=>x)) hi) (by rw[List.length_take];omega);rw[show(l.take i).length=i by rw[List.length_take];omega]at hone;obtain⟨t,ht⟩:∃t,pF m (l.take i)=t:=⟨_,rfl⟩;rw[ht]at hone;have HM:=ah (And.intro hm ht);clear hm ht;have HO:=ah hone;clear hone;have b0:(0:Int)<=(i:Int):=by omega
   have b1:(i:Int)<=(c:Int):=by omega
   have b2:i<=c:=by omega
   obtain⟨m1,m2⟩:=m;dsimp only[jH]at d0 d1 HO;have q0:(wr.alloc (.cells #[.int .i64 m1,.int .i64 m2] 56)).cell? ⟨wr.heap.size,0,none⟩=some (.int .i64 m1):=(Has.new wr 56 #[.int .i64 m1,.int .i64 m2]).cell 0;have q1:(wr.alloc (.cells #[.int .i64 m1,.int .i64 m2] 56)).cell? ⟨wr.heap.size,1,none⟩=some (.int .i64 m2):=(Has.new wr 56 #[.int .i64 m1,.int .i64 m2]).cell 1;have q2:(wr.alloc (.cells #[.int .i64 m1,.int .i64 m2] 56)).cell? ⟨w.heap.size,1,none⟩=some (.slice (some ad) l.length c):=(HH.out.alloc _).cell 1
   have hq:∀W,Kept aj (wr.alloc (.cells #[.int .i64 m1,.int .i64 m2] 56)) W->W.cell? ⟨wr.heap.size,0,none⟩=some (.int .i64 m1)/\W.cell? ⟨wr.heap.size,1,none⟩=some (.int .i64 m2)/\W.cell? ⟨w.heap.size,1,none⟩=some (.slice (some ad) l.length c):=fun W hW=>
    ⟨((Has.new wr 56 #[.int .i64 m1,.int .i64 m2]).kept hW (fun z=>z)).cell 0,((Has.new wr 56 #[.int .i64 m1,.int .i64 m2]).kept hW (fun z=>z)).cell 1,((HH.out.alloc _).kept hW (fun z=>z)).cell 1⟩
   have HQ:=ah hq;clear hq;go_wp2_with fail
   go_region_held3 (fun W=>W.cell? ⟨wr.heap.size,0,none⟩=some (.int .i64 m1)/\W.cell? ⟨wr.heap.size,1,none⟩=some (.int .i64 m2)/\W.cell? ⟨w.heap.size,1,none⟩=some (.slice (some ad) l.length c))
    (first|with_reducible exact q3|(refine HQ.out _ ?_;(repeat'(first|(with_reducible first|exact ak|apply au|apply ay|apply aA|apply aB)|(right;simp;done)))))
    (first|(go_at_call 51;refine(HO.out _ (by(repeat'(first|(with_reducible first|exact ak|apply au|apply ay|apply aA|apply aB)|(right;simp;done))))).mono ?_;rintro e w5 ⟨rfl,hk0⟩;have q3:=HQ.out w5 (Kept.then (by(repeat'(first|(with_reducible first|exact ak|apply au|apply ay|apply aA|apply aB)|(right;simp;done)))) hk0);have hk5:=Kept.then (F:=aj) (a:=wr) (by(repeat'(first|(with_reducible first|exact ak|apply au|apply ay|apply aA|apply aB)|(right;simp;done)))) hk0;clear hk0;have dB:=ah hk5;clear hk5))
   clear q0 q1 q2 d0 d1 HQ HO had;by_cases ht0:t=0
   ·have ht1:(t !=0)=false:=by simp[ht0]
    have hs:=HE.out.trans (Eg HM.out.1 (HM.out.2.trans ht0));have HS:=ah hs;clear hs ht0;go_wp2;go_roundw
    case rel=>exact⟨i+1,by omega,by go_num,HH.out.kept dB.out (fun z=>z),HK.out.then dB.out,HS.out⟩
    case measure=>simp[intOf];omega
   ·have ht1:(t !=0)=true:=by simpa using ht0
    have hs:=HE.out.trans ((Eh HM.out.1 (by rw[HM.out.2];exact ht0)).trans HM.out.2);have HS:=ah hs;clear hs ht0;go_wp2;go_ret;exact⟨by rw[HS.out];rfl,HK.out.then dB.out⟩
  ·obtain rfl:i=l.length:=by omega
   have hr:chk ep l=0:=by rw[HE.out,List.drop_length];rfl
   have HR:=ah hr;clear hr;go_wp2;go_ret;exact⟨by rw[HR.out];rfl,HK.out⟩

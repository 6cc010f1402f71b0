/- Part 12. -/
import Derived.Test.YtgbigpdiacjbgaaGreatCZ10
set_option linter.unusedSimpArgs false
set_option linter.unusedVariables false
set_option maxHeartbeats 32000000
set_option maxRecDepth 100000
namespace Go.Proofs.YtgbigpdiacjbgaaGreat
open Go.RowKit
namespace Ask
open aJ Ops dG bQ MO Vn
attribute [local go_sem↓] gI iE
theorem Ac{F:Nat->Prop}{a b:World}{size m:Nat}{A:Option Addr}{news:List Value}(h:Src a size A m news)(hk:Kept F a b)(hf:0<m->∀ad,A=some ad->¬F ad.block):Src b size A m news:=by
 rcases Nat.eq_zero_or_pos m with h0|h0
 ·refine⟨h.1,fun h1=>by omega⟩
 ·exact h.kept hk (hf h0)
section
variable{w w':World}{X:PX}{t:TS}{G:Nat->Prop}
theorem xX(h:t.ph=0):ji X t=.iface 111 (.agg (bH X t).toArray):=by unfold ji;rw[if_pos h]
theorem Bc(h:t.ph=1):ji X t=.iface 112 (.pointer (some ⟨X.g,0,none⟩)):=by unfold ji;rw[if_neg (by omega),if_pos h]
theorem Bd(h:t.ph=2):ji X t=.iface 115 (.agg (bH X t).toArray):=by unfold ji;rw[if_neg (by omega),if_neg (by omega)]
theorem vM(h:fE w X t)(hok:fF t)(hbl:t.bo.length<=1000)(ep hd:Int):Calls Tryz.prog 27 #[.pointer (some ⟨X.b,0,none⟩),.int .i64 ep,.int .i64 hd] w (dZ w t ep hd):=by
 obtain⟨W0,hW0⟩:∃W0,w.alloc (.cells bW 63)=W0:=⟨_,rfl⟩;have hk0:Kept aj w W0:=by rw[<-hW0];(repeat'(first|(with_reducible first|exact ay|apply aA|apply aB|apply aC|apply aF)|(right;simp;done)))
 have hn0:Has W0 w.heap.size 63 bW:=by rw[<-hW0];exact Has.new _ _ _
 have h0:=h.quiet hk0;have hnone:=xU h0;have hb:=h0.b;unfold tZ at hb;have xY:=hok.ph;have hw:=fun(e0:t.ph=0) (ed:t.dn=false)=>vH h0 e0 ed hbl ep hd;have hr:=fun(e0:t.ph=1) (ed:t.dn=false)=>vK h0 e0 ed hok ep hd;have ha:=fun(e0:t.ph=2) (ed:t.dn=false)=>vJ (w:=W0) (X:=X) e0 ed ep hd;obtain⟨bb,hbb⟩:∃bb,X.b=bb:=⟨_,rfl⟩;rw[hbb]at hb hnone⊢;obtain⟨rb,hrb⟩:∃rb,w.heap.size=rb:=⟨_,rfl⟩;rw[hrb]at hn0;have b0:W0.cell? ⟨bb,0,none⟩=some (ji X t):=hb.cell 0;have b3:W0.cell? ⟨bb,3,none⟩=some (.bool t.dn):=hb.cell 3;have HN:=ah hnone;have aN:=ah hk0;have dF:=ah hn0;have HW:=ah hw;have HR:=ah hr;have HA:=ah ha;have Dv:=ah (show w.heap.size<=rb by omega);clear hnone hk0 hn0 hw hr ha h0 h hok hbl hb hbb;unfold bW at hW0;cases hdn:t.dn with
 |true=>
  have hx:aU t ep hd=(-1,aV):=by unfold aU;rw[if_pos hdn]
  obtain⟨W6,hst,hb6,hk6⟩:=eH dF.out rfl aV;unfold au aV at hst;dsimp only[List.length_nil]at hst;have HX:=ah hx;have dP:=ah hb6;have cO:=ah hk6;rw[hdn]at b3;clear hx hb6 hk6 hdn;go_enter Tryz.func27,Tryz.ntmps27;go_wp2_with fail;clear hW0;refine HN.out.mono ?_;rintro e w1 ⟨rfl,rfl⟩;go_wp2;refine bodyPost_ret (aW rfl _ _ rb _ rfl (dB dP.out)) rfl ?_;refine⟨none,0,?_,?_,?_,(fun _ h=>by cases h),?_⟩
  ·rw[HX.out];rfl
  ·rw[HX.out];exact Src.nil _ _ _
  ·rw[HX.out];exact Nat.le_refl _
  ·exact aN.out.trans cO.out (fun i hi=> .inr (by rw[hi];exact Dv.out))
 |false=>
  rw[hdn]at b3;have Be:=ah hdn;have hpost:∀(e:Ending) w2,dZ W0 t ep hd e w2->∃(to:Int) (x:aH) (W6:World),e=.returned (.tuple #[.int .i64 to,bn x])/\(kJ ⟨rb,0,none⟩ (.agg (au x).toArray)).run Tryz.prog w2=.ok () W6/\Has W6 rb 63 (au x).toArray/\dZ w t ep hd (.returned (.tuple #[.int .i64 to,bn x])) W6:=fun e w2 hp=>by obtain⟨A,c,rfl,hs,hl,hnw,hk⟩:=hp;obtain⟨W6,g1,g2,g3⟩:=eH (dF.out.kept hk (fun z=>z)) rfl {(aU t ep hd).2 with oA:=A,oc:=c};refine⟨_,_,W6,rfl,g1,g2,A,c,rfl,Ac hs g3 (fun _ ad e1 e2=> ?_),hl,(fun ad e1=>Nat.le_trans aN.out.size (hnw ad e1)),(aN.out.then hk).trans g3 (fun i hi=> .inr (by rw[hi];exact Dv.out))⟩;have:=hnw ad e1;have:=dF.out.lt;omega
  have HP:=ah hpost;clear hdn hpost;rcases(show t.ph=0\/t.ph=1\/t.ph=2 by omega)with e|e|e
  ·have hc:=HW.out e Be.out;rw[xX e]at b0;obtain⟨cs,hcs⟩:∃cs,(bH X t).toArray=cs:=⟨_,rfl⟩;rw[hcs]at hc b0;clear hcs;have hm:∀w:World,(method 379 111 (.agg cs) "catena/asks.next").run Tryz.prog w=.ok (206,.agg cs) w:=fun _=>by kernel_rfl
   have HC:=ah hc;clear hc e xY;go_enter Tryz.func27,Tryz.ntmps27;go_wp2_with fail;clear hW0;refine HN.out.mono ?_;rintro e w1 ⟨rfl,rfl⟩;go_wp2_with fail;refine HC.out.mono ?_;intro e w2 hp;obtain⟨to,x,W6,rfl,hst,hb6,hpost⟩:=HP.out _ _ hp;have dP:=ah hb6;have vN:=ah hpost;unfold bn;obtain⟨xs,hxs⟩:∃xs,(au x).toArray=xs:=⟨_,rfl⟩;rw[hxs]at hst⊢;have Dw:=ah hxs;clear hp hb6 hpost hxs;go_wp2;refine bodyPost_ret (aW rfl _ _ rb _ rfl (dB dP.out)) rfl ?_;exact vN.out
  ·have hc:=HR.out e Be.out;rw[Bc e]at b0;have hm:∀w:World,(method 379 112 (.pointer (some ⟨X.g,0,none⟩)) "catena/asks.next").run Tryz.prog w=.ok (210,.pointer (some ⟨X.g,0,none⟩)) w:=fun _=>by kernel_rfl
   have HC:=ah hc;clear hc e xY;go_enter Tryz.func27,Tryz.ntmps27;go_wp2_with fail;clear hW0;refine HN.out.mono ?_;rintro e w1 ⟨rfl,rfl⟩;go_wp2_with fail;refine HC.out.mono ?_;intro e w2 hp;obtain⟨to,x,W6,rfl,hst,hb6,hpost⟩:=HP.out _ _ hp;have dP:=ah hb6;have vN:=ah hpost;unfold bn;obtain⟨xs,hxs⟩:∃xs,(au x).toArray=xs:=⟨_,rfl⟩;rw[hxs]at hst⊢;have Dw:=ah hxs;clear hp hb6 hpost hxs;go_wp2;refine bodyPost_ret (aW rfl _ _ rb _ rfl (dB dP.out)) rfl ?_;exact vN.out
  ·have hc:=HA.out e Be.out;rw[Bd e]at b0;obtain⟨cs,hcs⟩:∃cs,(bH X t).toArray=cs:=⟨_,rfl⟩;rw[hcs]at hc b0;clear hcs;have hm:∀w:World,(method 379 115 (.agg cs) "catena/asks.next").run Tryz.prog w=.ok (216,.agg cs) w:=fun _=>by kernel_rfl
   have HC:=ah hc;clear hc e xY;go_enter Tryz.func27,Tryz.ntmps27;go_wp2_with fail;clear hW0;refine HN.out.mono ?_;rintro e w1 ⟨rfl,rfl⟩;go_wp2_with fail;refine HC.out.mono ?_;intro e w2 hp;obtain⟨to,x,W6,rfl,hst,hb6,hpost⟩:=HP.out _ _ hp;have dP:=ah hb6;have vN:=ah hpost;unfold bn;obtain⟨xs,hxs⟩:∃xs,(au x).toArray=xs:=⟨_,rfl⟩;rw[hxs]at hst⊢;have Dw:=ah hxs;clear hp hb6 hpost hxs;go_wp2;refine bodyPost_ret (aW rfl _ _ rb _ rfl (dB dP.out)) rfl ?_;exact vN.out
end
end Ask
namespace Ask
open aJ Ops dG bQ MO Vn
section
variable{w w':World}{X:PX}{t:TS}{G:Nat->Prop}
theorem dD.same{v:Value}(h:fE w X t){w2:World}(hk:Kept aj w w2):dD w X t v t (.returned v) w2:=⟨rfl,X,h.quiet hk,rfl,fun k hk=> .inl hk,hk.mono (fun _ z=>z.elim)⟩
end
end Ask
namespace Keys
theorem qp(W:World)(b:Nat)(n:Int)(c:Nat)(hn:0<=n)(hn':n<256)(hc:W.cell? ⟨b,0,none⟩=some (.int .u8 n)):
  (convert 205 9 (.slice (some ⟨b,0,none⟩) 1 c)).run Tryz.prog W=.ok (.string ⟨#[UInt8.ofNat n.toNat]⟩) W:=by
 refine Lib.run_convert_whole (P:=Tryz.prog) W 205 5 9 Tryz.underlying205 Tryz.underlying5 Tryz.underlying9 b 0 ⟨#[UInt8.ofNat n.toNat]⟩ ?_ c;intro i hi;have h0:i=0:=by have:i<1:=hi;omega
 subst h0;rw[Nat.add_zero,hc];show _=some (Value.int IntKind.u8 ((UInt8.ofNat n.toNat).toNat:Int));congr 2;simp;omega
end Keys
namespace Ask
open aJ Ops dG bQ MO Vn
section
variable{w w':World}{X:PX}{t:TS}{G:Nat->Prop}
theorem vO(hok:fF t)(hk2:t.a.k=2)(x:aH):((bZ t x).length:Int)=min (x.ps.length:Int) (iD t)/\(bZ t x).length<=2/\0<=iD t/\(t.ps.length+(bZ t x).length:Nat)<=t.a.n:=by
 have h1:=hok.n1 hk2;have h2:=hok.ps.2 hk2;have hs:iD t=min 2 (t.a.n-t.ps.length):=rfl;have hl:(bZ t x).length=min (iD t).toNat x.ps.length:=by unfold bZ;rw[List.length_take]
 omega
end
end Ask
namespace Mst
open aJ
structure xZ where
 id:Int
 at':Int
 left:Int
deriving DecidableEq
def nK(p:xZ):List Value:=[.int .i64 p.id,.int .u64 p.at',.int .i64 p.left]
def dO(l:List xZ):List Value:=l.flatMap nK
theorem enters{f:FuncId}{fn:Func}{c:Code}(hf:Tryz.prog.funcs[f]? =some fn)(hname:(fn.name== "runtime.NumGoroutine")=false)(hb:fn.body=some c)(args:Array Value)(w:World):
  (callFunc f args).run Tryz.prog w=.ok (.enter f args) w:=by
 have h1:fn.name≠ "runtime.NumGoroutine" :=by simpa using hname
 simp[callFunc,hf,h1,hb]
def iP{α:Type}(p:α->Bool):List α->Nat->Int
 |[],_=> -1
 |x::l,i=>if p x=true then i else iP p l (i+1)
theorem Ad{α:Type}(p:α->Bool){l:List α}{i:Nat}{x:α}(h:l[i]? =some x):iP p (l.drop i) i=if p x=true then (i:Int)else iP p (l.drop (i+1)) (i+1):=by obtain⟨hi,rfl⟩:=lD0.1 h;rw[List.drop_eq_getElem_cons hi,iP]
theorem x9{α:Type}(p:α->Bool)(l:List α)(i:Nat):decide (0<=iP p l i)=l.any p:=by
 induction l generalizing i with
 |nil=>simp[iP]
 |cons x l ih=>
  rw[iP,List.any_cons];cases hx:p x
  ·rw[if_neg (by simp),ih,Bool.false_or]
  ·rw[if_pos rfl,Bool.true_or];simp
theorem uf(w:World)(A:Option Addr)(c:Nat)(l:List Mem)(g:Nat)(cap:Value)(p:Mem->Bool)(eg:∀args w,(callFunc g args).run Tryz.prog w=.ok (.enter g args) w)(hl:Src w 2 A l.length (aZ l))(hlen:l.length<=1000000)
  (hf:∀W x,Kept aj w W->x∈l->Calls Tryz.prog g #[jg x,cap] W fun e W'=>e=.returned (.bool (p x))/\Kept aj W W'):
  Calls Tryz.prog 188 #[.slice A l.length c,.func (.func g) #[] #[cap]] w fun r w'=>r=.returned (.int .i64 (iP p l 0))/\Kept aj w w':=by
 have HL:=ah hl;clear hl;have ug:=ah hf;clear hf;obtain⟨r,hr⟩:∃r,iP p l 0=r:=⟨_,rfl⟩;rw[hr];have HR:=ah hr;clear hr;go_enter Tryz.func188,Tryz.ntmps188;go_wp2_with fail;go_loopw [5,8] (fun v5 v8 wr=>∃i:Nat,i<=l.length/\v8=.int .i64 i/\r=iP p (l.drop i) i/\Kept aj w wr) (fun _ v8 _=>l.length-(intOf v8).toNat)
 case atStart=>exact⟨0,Nat.zero_le _,rfl,HR.out.symm,Kept.refl _ _⟩
 case round=>
  obtain⟨i,hi,rfl,hrr,hk⟩:=hrel;have HK:=ah hk;clear hk;by_cases hil:i<l.length
  ·obtain⟨x,hx⟩:∃x,l[i]? =some x:=⟨_,lB0 hil⟩;have hsa:=Ad p hx;obtain⟨ad,rfl,hl1,x0,x1⟩:=jq (HL.out.kept HK.out (fun _ _ x=>x)) (by omega) i x hx;have hcall:=ug.out wr x HK.out (lC0 hx);rw[hsa]at hrr;obtain⟨t,ht⟩:∃t,p x=t:=⟨_,rfl⟩;rw[ht]at hcall hrr;clear hsa ht hx;have HC:=ah hcall;clear hcall;have HRR:=ah hrr;clear hrr;go_wp2_with fail;refine HC.out.mono ?_;rintro e w5 ⟨rfl,hk0⟩;have dw:=ah (HK.out.then hk0);clear hk0;cases t
   ·have hrf:=HRR.out;rw[if_neg (by simp)]at hrf;have fU:=ah hrf;clear hrf HRR;go_wp2;go_roundw
    case rel=>exact⟨i+1,by omega,by go_num,fU.out,dw.out⟩
    case measure=>simp[intOf];omega
   ·have hrf:=HRR.out;rw[if_pos rfl]at hrf;have fU:=ah hrf;clear hrf HRR;go_wp2;go_ret;exact⟨by rw[fU.out];rfl,dw.out⟩
  ·obtain rfl:i=l.length:=by omega
   rw[List.drop_length,iP]at hrr;have HRR:=ah hrr;clear hrr;go_wp2;go_ret;exact⟨by rw[HRR.out];rfl,HK.out⟩
theorem uh(w:World)(A:Option Addr)(c:Nat)(l:List Mem)(g:Nat)(cap:Value)(p:Mem->Bool)(eg:∀args w,(callFunc g args).run Tryz.prog w=.ok (.enter g args) w)(hl:Src w 2 A l.length (aZ l))(hlen:l.length<=1000000)
  (hf:∀W x,Kept aj w W->x∈l->Calls Tryz.prog g #[jg x,cap] W fun e W'=>e=.returned (.bool (p x))/\Kept aj W W'):
  Calls Tryz.prog 185 #[.slice A l.length c,.func (.func g) #[] #[cap]] w fun r w'=>r=.returned (.bool (l.any p))/\Kept aj w w':=by
 have hi:=uf w A c l g cap p eg hl hlen hf;have ha:=x9 p l 0;obtain⟨k,hk⟩:∃k,iP p l 0=k:=⟨_,rfl⟩;rw[hk]at hi ha;rw[<-ha];have HI:=ah hi;clear hi hk hf hl ha eg;go_enter Tryz.func185,Tryz.ntmps185;go_wp2_with fail;refine HI.out.mono ?_;rintro e w2 ⟨rfl,hk⟩;have HK:=ah hk;clear hk;go_wp2;go_ret;exact⟨by simp,HK.out⟩
end Mst
namespace Mst
open aJ
structure Ed where
 cl:Int
 req:Int
 e:Int
 pin:Int
deriving DecidableEq

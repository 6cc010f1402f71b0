/- Part 5. -/
import Derived.Test.YtgbigpdiacjbgaaGreatCZ02
import Derived.Test.YtgbigpdiacjbgaaGreatCZ03
import Derived.Sort.KeysCollected
import Derived.Sort.Walk0
import Derived.Test.YtgbigpdiacjbgaaGreatRows
set_option linter.unusedSimpArgs false
set_option linter.unusedVariables false
set_option maxHeartbeats 32000000
set_option maxRecDepth 100000
namespace Go.Proofs.YtgbigpdiacjbgaaGreat
open Go.RowKit Go.Shelf
namespace Ops
open Vn
abbrev iL(o:aS):Value:=.agg #[.string o.key,.string o.val,.bool o.del]
abbrev mW(b:Batch)(A:Option Addr)(c:Nat):Value:=.agg #[.int .i64 b.cl,.int .i64 b.req,.slice A b.ops.length c]
theorem kC{w:World}{A:Option Addr}{m:Nat}{l:List aS}(h:Src w 3 A m (cells l))(hm:0<m)(i:Nat)(p:aS)(hp:l[i]? =some p):
  ∃ad,A=some ad/\ad.block<w.heap.size/\w.cell? (ad.add (i*3))=some (.string p.key)/\w.cell? ⟨(ad.add (i*3)).block,(ad.add (i*3)).off+1,none⟩=some (.string p.val)/\w.cell? ⟨(ad.add (i*3)).block,(ad.add (i*3)).off+2,none⟩=some (.bool p.del):=by
 obtain⟨ad,rfl,had,hcell⟩:=h.2 hm;have k0:(cells l)[i*3]? =some (.string p.key):=by unfold cells;rw[flat_get cell 3 (by decide) (fun _=>rfl),show i*3/3=i by omega,show i*3%3=0 by omega,hp];rfl
 have k1:(cells l)[i*3+1]? =some (.string p.val):=by unfold cells;rw[flat_get cell 3 (by decide) (fun _=>rfl),show(i*3+1)/3=i by omega,show(i*3+1)%3=1 by omega,hp];rfl
 have k2:(cells l)[i*3+2]? =some (.bool p.del):=by unfold cells;rw[flat_get cell 3 (by decide) (fun _=>rfl),show(i*3+2)/3=i by omega,show(i*3+2)%3=2 by omega,hp];rfl
 refine⟨ad,rfl,had,hcell _ _ k0,?_,?_⟩
 ·rw[<-add_lit _ (by omega),add_add];exact hcell _ _ k1
 ·rw[<-add_lit _ (by omega),add_add];exact hcell _ _ k2
theorem nJ(s:ByteArray):s.toList.isEmpty=decide (s.size=0):=by rw[ByteArray.toList_eq,<-dJ];cases h:bl s<;>simp[h]
theorem kD(s:ByteArray)(w:World):Calls Tryz.prog 86 #[.string s] w fun e w'=>e=.returned (.int .i64 (if s.size<1\/8<s.size then 10 else 0))/\w=w':=by
 have he:=nJ s;by_cases h0:s.size<1
 ·have h1:s.toList.isEmpty=true:=by rw[he];exact decide_eq_true (by omega)
  rw[if_pos (.inl h0)];clear he;go_enter Tryz.func86,Tryz.ntmps86;go_wp2;go_ret;exact⟨rfl,rfl⟩
 ·have h1:s.toList.isEmpty=false:=by rw[he];exact decide_eq_false (by omega)
  clear he;by_cases h8:8<s.size
  ·rw[if_pos (.inr h8)];go_enter Tryz.func86,Tryz.ntmps86;go_wp2;go_ret;exact⟨rfl,rfl⟩
  ·rw[if_neg (by omega)];go_enter Tryz.func86,Tryz.ntmps86;go_wp2;go_ret;exact⟨rfl,rfl⟩
theorem one_any(o:aS)(a:ByteArray)(f:Bool)(w:World):Calls Tryz.prog 126 #[iL o,.string a,.bool f] w fun e w'=>e=.returned (.int .i64 (one o a f))/\Kept aj w w':=by
 obtain⟨k,v,d⟩:=o;have hk:=kD k;unfold one iL;dsimp only;by_cases h1:k.size<1\/8<k.size
 ·rw[if_pos h1]at hk⊢;have HK:=ah hk;clear hk h1;go_enter Tryz.func126,Tryz.ntmps126;go_wp2_with fail;refine(HK.out _).mono ?_;rintro e w2 ⟨rfl,rfl⟩;go_wp2;go_ret;exact⟨rfl,(Kept.refl _ _).alloc _⟩
 ·rw[if_neg h1]at hk⊢;have HK:=ah hk;clear hk h1;by_cases h2:8<v.size
  ·rw[if_pos h2];go_enter Tryz.func126,Tryz.ntmps126;go_wp2_with fail;refine(HK.out _).mono ?_;rintro e w2 ⟨rfl,rfl⟩;go_wp2;go_ret;exact⟨rfl,(Kept.refl _ _).alloc _⟩
  ·rw[if_neg h2];have he:=nJ v;by_cases h3:d=true/\v.size≠0
   ·rw[if_pos h3];have he2:v.toList.isEmpty=false:=by rw[he];exact decide_eq_false h3.2
    obtain⟨rfl,h4⟩:=h3;clear he;go_enter Tryz.func126,Tryz.ntmps126;go_wp2_with fail;refine(HK.out _).mono ?_;rintro e w2 ⟨rfl,rfl⟩;go_wp2;go_ret;exact⟨rfl,(Kept.refl _ _).alloc _⟩
   ·rw[if_neg h3];by_cases h4:f=false/\Op.bytesLess a.toList k.toList=false
    ·rw[if_pos h4];obtain⟨rfl,h5⟩:=h4;cases d
     ·clear he h3;go_enter Tryz.func126,Tryz.ntmps126;go_wp2_with fail;refine(HK.out _).mono ?_;rintro e w2 ⟨rfl,rfl⟩;go_wp2;go_ret;exact⟨rfl,(Kept.refl _ _).alloc _⟩
     ·have he2:v.toList.isEmpty=true:=by rw[he];exact decide_eq_true (Classical.byContradiction fun x=>h3 ⟨rfl,x⟩)
      clear he h3;go_enter Tryz.func126,Tryz.ntmps126;go_wp2_with fail;refine(HK.out _).mono ?_;rintro e w2 ⟨rfl,rfl⟩;go_wp2;go_ret;exact⟨rfl,(Kept.refl _ _).alloc _⟩
    ·rw[if_neg h4];have h5:f=true\/(f=false/\Op.bytesLess a.toList k.toList=true):=by
      cases f
      ·right;refine⟨rfl,?_⟩;cases hb:Op.bytesLess a.toList k.toList
       ·exact absurd ⟨rfl,hb⟩ h4
       ·rfl
      ·left;rfl
     clear h4;cases d
     ·clear he h3;rcases h5 with rfl|⟨rfl,h5⟩
      all_goals
       go_enter Tryz.func126,Tryz.ntmps126
       go_wp2_with fail
       refine(HK.out _).mono ?_
       rintro e w2 ⟨rfl,rfl⟩
       go_wp2
       go_ret
       exact⟨rfl,(Kept.refl _ _).alloc _⟩
     ·have he2:v.toList.isEmpty=true:=by rw[he];exact decide_eq_true (Classical.byContradiction fun x=>h3 ⟨rfl,x⟩)
      clear he h3;rcases h5 with rfl|⟨rfl,h5⟩
      all_goals
       go_enter Tryz.func126,Tryz.ntmps126
       go_wp2_with fail
       refine(HK.out _).mono ?_
       rintro e w2 ⟨rfl,rfl⟩
       go_wp2
       go_ret
       exact⟨rfl,(Kept.refl _ _).alloc _⟩
theorem uV(b:Batch):(chk b=1/\(b.cl<0\/(¬b.cl<0/\3<=b.cl)))\/(chk b=5/\0<=b.cl/\b.cl<3/\(b.req<1\/(¬b.req<1/\1073741824<b.req)))\/(chk b=6/\0<=b.cl/\b.cl<3/\1<=b.req/\b.req<=1073741824/\4<b.ops.length)\/(chk b=iK b.ops emp true/\0<=b.cl/\b.cl<3/\1<=b.req/\b.req<=1073741824/\b.ops.length<=4):=by
 unfold chk;by_cases h1:b.cl<0\/3<=b.cl
 ·rw[if_pos h1];left;exact⟨rfl,by omega⟩
 ·rw[if_neg h1];right;by_cases h2:b.req<1\/1073741824<b.req
  ·rw[if_pos h2];left;exact⟨rfl,by omega,by omega,by omega⟩
  ·rw[if_neg h2];right;by_cases h3:4<b.ops.length
   ·rw[if_pos h3];left;exact⟨rfl,by omega,by omega,by omega,by omega,h3⟩
   ·rw[if_neg h3];right;exact⟨rfl,by omega,by omega,by omega,by omega,by omega⟩
theorem iY(w:World)(b:Batch)(A:Option Addr)(c:Nat)(hs:Src w 3 A b.ops.length (cells b.ops)):
  Calls Tryz.prog 84 #[mW b A c] w fun e w'=>e=.returned (.int .i64 (chk b))/\Kept aj w w':=by
 have hc:=uV b;obtain⟨cl,req,l⟩:=b;dsimp only at hc hs;unfold mW;dsimp only;have HS:=ah hs;clear hs;rcases hc with⟨hc,h1|⟨h1,h2⟩⟩|⟨hc,h0,h1,h2|⟨h2,h3⟩⟩|⟨hc,h0,h1,h2,h3,h4⟩|⟨hc,h0,h1,h2,h3,h4⟩
 ·rw[hc];clear hc HS;go_enter Tryz.func84,Tryz.ntmps84;go_wp2;go_ret;exact⟨rfl,(Kept.refl _ _).alloc _⟩
 ·rw[hc];clear hc HS;go_enter Tryz.func84,Tryz.ntmps84;go_wp2;go_ret;exact⟨rfl,(Kept.refl _ _).alloc _⟩
 ·rw[hc];clear hc HS;have g1:¬cl<0:=by omega
  have g2:¬3<=cl:=by omega
  go_enter Tryz.func84,Tryz.ntmps84;go_wp2;go_ret;exact⟨rfl,(Kept.refl _ _).alloc _⟩
 ·rw[hc];clear hc HS;have g1:¬cl<0:=by omega
  have g2:¬3<=cl:=by omega
  go_enter Tryz.func84,Tryz.ntmps84;go_wp2;go_ret;exact⟨rfl,(Kept.refl _ _).alloc _⟩
 ·rw[hc];clear hc HS;have g1:¬cl<0:=by omega
  have g2:¬3<=cl:=by omega
  have g3:¬req<1:=by omega
  have g4:¬1073741824<req:=by omega
  go_enter Tryz.func84,Tryz.ntmps84;go_wp2;go_ret;exact⟨rfl,(Kept.refl _ _).alloc _⟩
 ·rw[hc];clear hc;have g1:¬cl<0:=by omega
  have g2:¬3<=cl:=by omega
  have g3:¬req<1:=by omega
  have g4:¬1073741824<req:=by omega
  go_enter Tryz.func84,Tryz.ntmps84;go_wp2;go_loopw [3,33] (fun v3 v33 wr=>∃(i:Nat) (a:ByteArray),i<=l.length/\v33=.int .i64 i/\v3=.string a/\iK l emp true=iK (l.drop i) a (decide (i=0))/\Kept aj w wr) (fun _ v33 _=>l.length-(intOf v33).toNat)
  case atStart=>exact⟨0,emp,Nat.zero_le _,rfl,rfl,rfl,by(repeat'(first|(with_reducible first|exact ay|apply aA|apply aB|apply aC|apply aF)|(right;simp;done)))⟩
  case round=>
   obtain⟨i,a,hi,rfl,rfl,he,hk⟩:=hrel;have HE:=ah he;clear he;have HK:=ah hk;clear hk;by_cases hil:i<l.length
   ·obtain⟨o,ho⟩:∃o,l[i]? =some o:=⟨_,lB0 hil⟩;have hoi:l[i]=o:=by rw[lB0 hil]at ho;exact Option.some.inj ho
    obtain⟨ad,rfl,had,e0,e1,e2⟩:=kC (HS.out.kept HK.out (fun _ _ x=>x)) (by omega) i o ho;have hd:=zN l i hil a (decide (i=0));rw[hoi]at hd;have HD:=ah hd;clear hd ho hoi;obtain⟨f,hf⟩:∃f,decide (i=0)=f:=⟨_,rfl⟩;rw[hf]at HD HE;have hone:∀(g:Bool) (W:World),g=f->Calls Tryz.prog 126 #[iL o,.string a,.bool g] W fun e w'=>e=.returned (.int .i64 (one o a f))/\Kept aj W w':=fun g W hg=>by rw[hg];exact one_any o a f W
    have HF:=ah hf;clear hf;have HO:=ah hone;clear hone;have HN:=ah (Has.new wr 143 #[.string o.key,.string o.val,.bool o.del]);go_wp2_with fail;refine(HO.out _ _ (by rw[<-HF.out];by_cases h0:i=0<;>simp[h0])).mono ?_;rintro e w2 ⟨rfl,hk⟩;have hh:=HN.out.kept hk (fun x=>x);have c0:w2.cell? ⟨wr.heap.size,0,none⟩=some (.string o.key):=hh.cell 0;have hk2:=(HK.out.alloc _).then hk;have bK:=ah hk2;clear hk2 hk hh HN HK HO;by_cases hz:one o a f=0
    ·have hz2:(one o a f==0)=true:=by simp[hz]
     have hd2:=HD.out;rw[if_neg (by simp[hz])]at hd2;rw[hz]at hz2⊢;have HD2:=ah hd2;clear hd2 HD;have HZ:=ah hz;clear hz hz2;go_wp2;go_roundw
     case rel=>exact⟨i+1,o.key,by omega,by go_num,rfl,by
      rw[HE.out,HD2.out];have:decide (i+1=0)=false:=by simp
      rw[this],bK.out⟩
     case measure=>simp[intOf];omega
    ·have hd2:=HD.out;rw[if_pos hz]at hd2;have hr:=HE.out.trans hd2;obtain⟨x,hx⟩:∃x,one o a f=x:=⟨_,rfl⟩;rw[hx]at hz hr⊢;have hz2:(x !=0)=true:=by simpa using hz
     have HR:=ah hr;clear HD HE hd2 hr hx hz;go_wp2;go_ret;exact⟨by rw[HR.out];rfl,bK.out⟩
   ·obtain rfl:i=l.length:=by omega
    have hr:=HE.out;rw[List.drop_length,iK]at hr;have HR:=ah hr;clear HE hr;go_wp2;go_ret;exact⟨by rw[HR.out];rfl,HK.out⟩
end Ops
end Go.Proofs.YtgbigpdiacjbgaaGreat
namespace Go.Proofs.YtgbigpdiacjbgaaGreat.Keys
open Go.Proofs
abbrev BL:=List UInt8
def mX:List BL->List BL
 |[]=>[]
 |a::l=>if a∈l then mX l else a::mX l
theorem mY(l:List BL)(x:BL):x∈mX l↔x∈l:=by
 induction l with
 |nil=>exact Iff.rfl
 |cons a l ih=>
  unfold mX;split
  ·rename_i h;rw[ih,List.mem_cons];constructor
   ·exact .inr
   ·rintro(rfl|h2)
    ·exact h
    ·exact h2
  ·rw[List.mem_cons,List.mem_cons,ih]
theorem tq(l:List BL):(mX l).Nodup:=by
 induction l with
 |nil=>exact List.nodup_nil
 |cons a l ih=>
  unfold mX;split
  ·exact ih
  ·rename_i h;exact List.nodup_cons.2 ⟨fun x=>h ((mY l a).1 x),ih⟩
def tu(l:List BL):List BL:=(mX l).mergeSort leB
theorem set_perm{ss l:List BL}(hn:ss.Nodup)(hm:∀x,x∈ss↔x∈l):ss.mergeSort leB=tu l:=
 mergeSort_of_perm ((List.perm_ext_iff_of_nodup hn (tq l)).2 fun x=>(hm x).trans (mY l x).symm)
theorem mem_set(l:List BL)(x:BL):x∈tu l↔x∈l:=by unfold tu;rw[List.mem_mergeSort,mY]
end Go.Proofs.YtgbigpdiacjbgaaGreat.Keys
namespace Go.Proofs.YtgbigpdiacjbgaaGreat
open Go.RowKit Go.Maps
namespace Ops
abbrev BL:=List UInt8
abbrev Env:=BL->Option ByteArray
theorem mZ:Keyed Tryz.prog 9:=string_keyed Tryz.underlying9
theorem AB{s:ByteArray}(h:s.size<=maxLen):keyOf Tryz.prog 9 (.string s)=some (.string (bl s)):=WideMaps.keyOf_string_mk Tryz.underlying9 h
def SMap(w:World)(b n:Nat)(f:Env):Prop:=
 ∃D:DataW Unit,w.ownsMap Tryz.prog 9 (plainElem Tryz.prog 9) b n D/\∀x:BL,has D (.string x)=(f x).isSome/\D.atKey (.string x) (.lit (.string []))=.lit (.string (bl ((f x).getD emp)))
theorem SMap.lt{w:World}{b n:Nat}{m:Env}(h:SMap w b n m):b<w.heap.size:=by obtain⟨D,h,_⟩:=h;exact h.lt
theorem SMap.kept{F:Nat->Prop}{w w':World}{b n:Nat}{m:Env}(h:SMap w b n m)(hk:Kept F w w')(hf:¬F b):SMap w' b n m:=by obtain⟨D,ho,hD⟩:=h;have hlt:=ho.lt;obtain⟨es,clock,hb,hF,hs,e⟩:=ho;exact⟨D,⟨es,clock,(hk.block b hlt hf).trans hb,hF,hs,e⟩,hD⟩
theorem SMap.mono{w:World}{b n n':Nat}{m:Env}(h:SMap w b n m)(hn:n<=n'):SMap w b n' m:=by obtain⟨D,ho,hD⟩:=h;exact⟨D,ho.mono hn,hD⟩
end Ops
end Go.Proofs.YtgbigpdiacjbgaaGreat
namespace Go.Proofs.YtgbigpdiacjbgaaGreat
namespace Ops
structure bP where
 key:ByteArray
 val:ByteArray
deriving DecidableEq
def nK(p:bP):List Value:=[.string p.key,.string p.val]
def dO(l:List bP):List Value:=l.flatMap nK
end Ops
end Go.Proofs.YtgbigpdiacjbgaaGreat
namespace Go.Proofs.YtgbigpdiacjbgaaGreat
open Go.RowKit Go.Shelf
namespace Ops
open Vn
theorem pair_cells{w:World}{A:Option Addr}{m:Nat}{l:List bP}(h:Src w 2 A m (dO l))(hm:0<m)(i:Nat)(p:bP)(hp:l[i]? =some p):
  ∃ad,A=some ad/\ad.block<w.heap.size/\w.cell? (ad.add (i*2))=some (.string p.key)/\w.cell? ⟨(ad.add (i*2)).block,(ad.add (i*2)).off+1,none⟩=some (.string p.val):=by
 obtain⟨ad,rfl,had,hcell⟩:=h.2 hm;have k0:(dO l)[i*2]? =some (.string p.key):=by unfold dO;rw[flat_get nK 2 (by decide) (fun _=>rfl),show i*2/2=i by omega,show i*2%2=0 by omega,hp];rfl
 have k1:(dO l)[i*2+1]? =some (.string p.val):=by unfold dO;rw[flat_get nK 2 (by decide) (fun _=>rfl),show(i*2+1)/2=i by omega,show(i*2+1)%2=1 by omega,hp];rfl
 refine⟨ad,rfl,had,hcell _ _ k0,?_⟩;rw[<-add_lit _ (by omega),add_add];exact hcell _ _ k1
end Ops
end Go.Proofs.YtgbigpdiacjbgaaGreat
namespace Go.Proofs.YtgbigpdiacjbgaaGreat
open Go.RowKit Go.WideShapes Go.ChangeShapes
section
variable{H:Type}{enc:TypeId×Value->H}{W:World}{v:Value}{d:DataW H}{ps:List MemPlace}{r:Reach}{b0:Nat}
theorem uX(hv:∃A n c,v=.slice A n c)(h:DataW.Trod enc Tryz.prog W 0 (fun _=>true) true 23 v d ps):
  ∃(A:Option Addr) (c:Nat) (l:List Ops.aS),v=.slice A l.length c/\l.length<=c/\c<=maxLen/\Src W 3 A l.length (Ops.cells l)/\(∀o∈l,o.key.size<=maxLen/\o.val.size<=maxLen):=by
 have _:Inhabited Ops.aS:=⟨⟨⟨#[]⟩,⟨#[]⟩,false⟩⟩
 obtain⟨A,c,l,h1,h2,h3,h4,h5,_⟩:=uU (α:=Ops.aS) Ops.cell (fun o=>o.key.size<=maxLen/\o.val.size<=maxLen) 3 Tryz.underlying23 (by kernel_rfl) (by decide) (fun _=>rfl)
  (fun fuel cs y hy=>by
   obtain⟨y0,y1,y2,n,_,hl,h0,h1,h2⟩:=Deep.trod_struct3 Tryz.underlying143 hy;have hC:Tryz.prog.cellsOf 143=3:=by kernel_rfl
   rw[hC]at hl;match cs,hl with
   |[c0,c1,c2],_=>
    have e9:Tryz.prog.cellsOf 9=1:=by kernel_rfl
    have e4:Tryz.prog.cellsOf 4=1:=by kernel_rfl
    obtain⟨x0,hx0,_,m0⟩:=DataW.trod_string Tryz.underlying9 h0;obtain⟨x1,hx1,_,m1⟩:=DataW.trod_string Tryz.underlying9 h1;obtain⟨x2,hx2,_⟩:=DataW.trod_bool Tryz.underlying4 h2;simp[e9]at hx0 hx1;simp[e9,e4]at hx2;subst hx0;subst hx1;subst hx2;exact⟨⟨x0,x1,x2⟩,rfl,m0,m1⟩) h hv
 exact⟨A,c,l,h1,h2,h3,h4,h5⟩

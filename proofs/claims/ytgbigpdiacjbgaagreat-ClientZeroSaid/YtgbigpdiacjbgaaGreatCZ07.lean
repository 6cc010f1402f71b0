/- Part 8. -/
import Derived.Test.YtgbigpdiacjbgaaGreatCZ06
import Derived.StillTailTactics
import Derived.Shelf.Sort.Plain
import Derived.Shelf.Slices.In.SortNone
import Derived.Sort.OwnSortedInts
import Derived.Lib.AppendZerosOnto
set_option linter.unusedSimpArgs false
set_option linter.unusedVariables false
set_option maxHeartbeats 32000000
set_option maxRecDepth 100000
namespace Go.Proofs.YtgbigpdiacjbgaaGreat
open Go.RowKit
namespace aJ
theorem qK{l:List Mem}{i:Nat}{m:Mem}(h:l[i]? =some m)(h0:dX m (l.take i)=0):cZ (l.take i) (l.drop i)=cZ (l.take (i+1)) (l.drop (i+1)):=by
 rw[drop_cons h,take_snoc h];conv=>lhs;unfold cZ
 rw[if_pos h0]
theorem qL{l:List Mem}{i:Nat}{m:Mem}(h:l[i]? =some m)(h0:dX m (l.take i)≠0):cZ (l.take i) (l.drop i)=dX m (l.take i):=by rw[drop_cons h];unfold cZ;rw[if_neg h0]
end aJ
namespace aJ
def dY(b:Nat)(w:World)(A:Option Addr)(n c:Nat)(l:List Mem):Prop:=
 n=l.length/\w.ownsRow 0 175 2 (.slice A n c) n (aZ l)/\∀k,(Value.slice A n c).ownBlock=some k->b<=k
theorem dY.nil(b:Nat)(w:World):dY b w none 0 0 []:=⟨rfl,⟨rfl,.inl ⟨rfl,rfl⟩⟩,fun k hk=>by cases hk⟩
theorem dY.kept{b:Nat}{w w':World}{A:Option Addr}{n c:Nat}{l:List Mem}(h:dY b w A n c l)(hk:Kept aj w w'):dY b w' A n c l:=
 ⟨h.1,aX h.2.1 hk (fun _ _ x=>x),h.2.2⟩
end aJ
namespace aJ
def jc(b:Nat)(w:World)(A:Option Addr)(n c:Nat)(l:List Int):Prop:=
 n=l.length/\w.ownsRow 0 3 1 (.slice A n c) n (ints l)/\∀k,(Value.slice A n c).ownBlock=some k->b<=k
theorem jc.nil(b:Nat)(w:World):jc b w none 0 0 []:=⟨rfl,⟨rfl,.inl ⟨rfl,rfl⟩⟩,fun k hk=>by cases hk⟩
theorem jc.kept{b:Nat}{w w':World}{A:Option Addr}{n c:Nat}{l:List Int}(h:jc b w A n c l)(hk:Kept aj w w'):jc b w' A n c l:=
 ⟨h.1,aX h.2.1 hk (fun _ _ x=>x),h.2.2⟩
theorem dY.mono{b b':Nat}{w:World}{A:Option Addr}{n c:Nat}{l:List Mem}(h:dY b w A n c l)(hb:b'<=b):dY b' w A n c l:=⟨h.1,h.2.1,fun k hk=>Nat.le_trans hb (h.2.2 k hk)⟩
theorem dY.ne{b:Nat}{w:World}{A:Option Addr}{n c:Nat}{l:List Mem}(h:dY b w A n c l){g:Nat}{t:TypeId}{cs:Array Value}(hg:Has w g t cs)(hne:175≠t):(Value.slice A n c).ownBlock≠some g:=own_ne h.2.1 hg hne
def AU(N:Next)(A:Option Addr)(n c:Nat)(B:Option Addr)(m d:Nat):Value:=.tuple #[xJ N.ep A n c N.fl,.slice B m d,.int .i64 N.e]
def dZ(w:World)(N:Next)(e:Ending)(w':World):Prop:=
 ∃A n c B m d,e=.returned (AU N A n c B m d)/\dY w.heap.size w' A n c N.l/\jc w.heap.size w' B m d N.t/\Kept aj w w'
end aJ
end Go.Proofs.YtgbigpdiacjbgaaGreat
namespace Go.Proofs.YtgbigpdiacjbgaaGreat
open Go.RowKit Go.Shelf
namespace aJ
def nP(w:World)(g:Nat)(lb:Array Value)(l:List Mem)(p:Mem->Bool):Prop:=
 ∀W m,Kept aj w W->m∈l->Calls Tryz.prog g (#[jg m]++lb) W fun e w'=>e=.returned (.bool (p m))/\Kept aj W w'
theorem nP.kept{w w':World}{g:Nat}{lb:Array Value}{l:List Mem}{p:Mem->Bool}(h:nP w g lb l p)(hk:Kept aj w w'):nP w' g lb l p:=fun W m hW hm=>h W m (hk.then hW) hm
def jG(p:Mem->Bool)(l:List Mem):Bool:=l.any p
theorem vC(w:World)(A:Option Addr)(c:Nat)(l:List Mem)(p:Mem->Bool)(g:Nat)(lb:Array Value)(hl:Src w 2 A l.length (aZ l))(hlen:l.length<=1000000)
  (eg:∀args w,(callFunc g args).run Tryz.prog w=.ok (.enter g args) w) (hp:nP w g lb l p):
  Calls Tryz.prog 188 #[.slice A l.length c,.func (.func g) #[] lb] w fun e w'=>(∃n:Int,e=.returned (.int .i64 n)/\(0<=n↔jG p l=true))/\Kept aj w w':=by
 have HL:=ah hl;clear hl;have HP:=ah hp;clear hp;go_enter Tryz.func188,Tryz.ntmps188;go_wp2_with fail;go_loopw [8] (fun v8 wr=>∃i:Nat,i<=l.length/\v8=.int .i64 i/\Kept aj w wr/\jG p l=jG p (l.drop i)) (fun v8 _=>l.length-(intOf v8).toNat)
 case atStart=>exact⟨0,Nat.zero_le _,rfl,Kept.refl _ _,rfl⟩
 case round=>
  obtain⟨i,hi,rfl,hk,he⟩:=hrel;have HK:=ah hk;clear hk;have HE:=ah he;clear he;by_cases hil:i<l.length
  ·obtain⟨m,hm⟩:∃m,l[i]? =some m:=⟨_,lB0 hil⟩;obtain⟨ad,hA,had,d0,d1⟩:=jq (HL.out.kept HK.out (fun _ _ x=>x)) (by omega) i m hm;subst hA;have hcall:=HP.out wr m HK.out (lC0 hm);have hs:jG p (l.drop i)=(p m||jG p (l.drop (i+1))):=by unfold jG;rw[drop_cons hm,List.any_cons]
   obtain⟨b,hb⟩:∃b,p m=b:=⟨_,rfl⟩;rw[hb]at hcall hs;have HS:=ah hs;clear hs hm hb;obtain⟨m1,m2⟩:=m;unfold jg at hcall;dsimp only at d0 d1 hcall;have HC:=ah hcall;clear hcall;cases b
   ·go_wp2_with fail;refine HC.out.mono ?_;rintro e w2 ⟨rfl,hk2⟩;have hk3:=HK.out.then hk2;have bf:=ah hk3;clear hk3 hk2;go_wp2;go_roundw
    case rel=>exact⟨i+1,by omega,by go_num,bf.out,by rw[HE.out,HS.out];rfl⟩
    case measure=>simp[intOf];omega
   ·go_wp2_with fail;refine HC.out.mono ?_;rintro e w2 ⟨rfl,hk2⟩;have hk3:=HK.out.then hk2;have bf:=ah hk3;clear hk3 hk2;go_wp2;go_ret;exact⟨⟨_,rfl,⟨fun _=>by rw[HE.out,HS.out];rfl,fun _=>by omega⟩⟩,bf.out⟩
  ·obtain rfl:i=l.length:=by omega
   go_wp2;go_ret;exact⟨⟨-1,rfl,⟨fun h=>by omega,fun h=>by rw[HE.out,List.drop_length]at h;cases h⟩⟩,HK.out⟩
theorem qM(w:World)(A:Option Addr)(c:Nat)(l:List Mem)(p:Mem->Bool)(g:Nat)(lb:Array Value)(hl:Src w 2 A l.length (aZ l))(hlen:l.length<=1000000)
  (eg:∀args w,(callFunc g args).run Tryz.prog w=.ok (.enter g args) w) (hp:nP w g lb l p):
  Calls Tryz.prog 185 #[.slice A l.length c,.func (.func g) #[] lb] w fun e w'=>e=.returned (.bool (jG p l))/\Kept aj w w':=by
 have hi:=vC w A c l p g lb hl hlen eg hp;have HI:=ah hi;clear hi hl hp eg;obtain⟨b,hb⟩:∃b,jG p l=b:=⟨_,rfl⟩;rw[hb]at HI⊢;clear hb;go_enter Tryz.func185,Tryz.ntmps185;go_wp2_with fail;refine HI.out.mono ?_;rintro e w2 ⟨⟨n,rfl,hn⟩,hk⟩;have HN:=ah hn;clear hn;go_wp2;go_ret;refine⟨?_,hk⟩;have h:=HN.out;cases b
 ·have:decide (0<=n)=false:=by rw[decide_eq_false_iff_not];intro x;have:=h.1 x;cases this
  rw[<-this];rfl
 ·have:decide (0<=n)=true:=by rw[decide_eq_true_eq];exact h.2 rfl
  rw[<-this];rfl
theorem twin_any(W:World)(B:Nat)(m x:Mem)(hB:Has W B 175 #[.int .i64 m.1,.int .i64 m.2]):
  Calls Tryz.prog 184 #[jg x,.pointer (some ⟨B,0,none⟩)] W fun e w'=>e=.returned (.bool (decide (x.1=m.1)))/\Kept aj W w':=by
 have hlt:=hB.lt;have hne:B≠W.heap.size:=by omega
 obtain⟨x1,x2⟩:=x;obtain⟨m1,m2⟩:=m;have c0:∀o,(W.alloc o).cell? ⟨B,0,none⟩=some (.int .i64 m1):=fun o=>(hB.alloc o).cell 0;clear hB hlt;unfold jg;dsimp only;go_enter Tryz.func184,Tryz.ntmps184;go_wp2;go_ret;exact⟨by by_cases h:x1=m1<;>simp[h],(Kept.refl _ _).alloc _⟩
theorem AV:∀args w,(callFunc 184 args).run Tryz.prog w=.ok (.enter 184 args) w:=enters_of Tryz.func184 (by kernel_rfl) rfl
theorem one_any(w:World)(A:Option Addr)(c:Nat)(l:List Mem)(m:Mem)(hl:Src w 2 A l.length (aZ l))(hlen:l.length<=1000000):
  Calls Tryz.prog 174 #[jg m,.slice A l.length c] w fun e w'=>e=.returned (.int .i64 (dX m l))/\Kept aj w w':=by
 have hone:dX m l=if m.1<0\/4<=m.1 then 1 else if m.2<1\/1073741824<m.2 then 5 else if jG (fun x=>decide (x.1=m.1)) l then 18 else 0:=rfl;have hnb:=Has.new w 175 #[.int .i64 m.1,.int .i64 m.2]
 have hco:=qM (w.alloc (.cells #[.int .i64 m.1,.int .i64 m.2] 175)) A c l (fun x=>decide (x.1=m.1)) 184 #[.pointer (some ⟨w.heap.size,0,none⟩)] (hl.kept ((Kept.refl aj w).alloc _) (fun _ _ x=>x)) hlen AV
  (fun W x hW _=>twin_any W w.heap.size m x (hnb.kept hW (fun x=>x)))
 obtain⟨b,hb⟩:∃b,jG (fun x=>decide (x.1=m.1)) l=b:=⟨_,rfl⟩;rw[hb]at hco hone;have AX:=ah hco;clear hco hnb hl hb;obtain⟨r,hr⟩:∃r,dX m l=r:=⟨_,rfl⟩;rw[hr]at hone⊢;clear hr;obtain⟨m1,m2⟩:=m;unfold jg;dsimp only at hone AX⊢;have qN:=ah hone;clear hone;by_cases g1:m1<0
 ·have h1:=qN.out;rw[if_pos (.inl g1)]at h1;subst h1;go_enter Tryz.func174,Tryz.ntmps174;go_wp2;go_ret;exact⟨rfl,(Kept.refl _ _).alloc _⟩
 by_cases g2:4<=m1
 ·have h1:=qN.out;rw[if_pos (.inr g2)]at h1;subst h1;go_enter Tryz.func174,Tryz.ntmps174;go_wp2;go_ret;exact⟨rfl,(Kept.refl _ _).alloc _⟩
 by_cases g3:m2<1
 ·have h1:=qN.out;rw[if_neg (by omega),if_pos (.inl g3)]at h1;subst h1;go_enter Tryz.func174,Tryz.ntmps174;go_wp2;go_ret;exact⟨rfl,(Kept.refl _ _).alloc _⟩
 by_cases g4:1073741824<m2
 ·have h1:=qN.out;rw[if_neg (by omega),if_pos (.inr g4)]at h1;subst h1;go_enter Tryz.func174,Tryz.ntmps174;go_wp2;go_ret;exact⟨rfl,(Kept.refl _ _).alloc _⟩
 have h1:=qN.out;rw[if_neg (by omega),if_neg (by omega)]at h1;cases b
 ·rw[if_neg (by decide)]at h1;subst h1;go_enter Tryz.func174,Tryz.ntmps174;go_wp2_with fail;refine AX.out.mono ?_;rintro e w2 ⟨rfl,hk⟩;go_wp2;go_ret;exact⟨rfl,((Kept.refl _ _).alloc _).then hk⟩
 ·rw[if_pos rfl]at h1;subst h1;go_enter Tryz.func174,Tryz.ntmps174;go_wp2_with fail;refine AX.out.mono ?_;rintro e w2 ⟨rfl,hk⟩;go_wp2;go_ret;exact⟨rfl,((Kept.refl _ _).alloc _).then hk⟩
end aJ
end Go.Proofs.YtgbigpdiacjbgaaGreat
namespace Go.Proofs.YtgbigpdiacjbgaaGreat
open Go.RowKit Go.Shelf Go.Maps
namespace aJ
def I64(k:Int):Prop:=(Lit.int .i64 k).wf=true
def kH(w:World)(b n:Nat)(s:Int->Bool):Prop:=
 ∃D:DataW Unit,w.ownsMap Tryz.prog 3 (plainElem Tryz.prog 4) b n D/\∀k,I64 k->D.atKey (.int .i64 k) (.lit (.bool false))=.lit (.bool (s k))
theorem kH.lt{w:World}{b n:Nat}{s:Int->Bool}(h:kH w b n s):b<w.heap.size:=by obtain⟨D,h,_⟩:=h;exact h.lt
theorem kH.kept{F:Nat->Prop}{w w':World}{b n:Nat}{s:Int->Bool}(h:kH w b n s)(hk:Kept F w w')(hf:¬F b):kH w' b n s:=by obtain⟨D,ho,hD⟩:=h;have hlt:=ho.lt;obtain⟨es,clock,hb,hF,hs,e⟩:=ho;exact⟨D,⟨es,clock,(hk.block b hlt hf).trans hb,hF,hs,e⟩,hD⟩
theorem kH.ne{w:World}{b n g:Nat}{s:Int->Bool}{t:TypeId}{cs:Array Value}(h:kH w b n s)(hg:Has w g t cs):b≠g:=by rintro rfl;obtain⟨D,⟨es,clock,hb,_⟩,_⟩:=h;unfold Has at hg;rw[hg]at hb;cases hb
end aJ
end Go.Proofs.YtgbigpdiacjbgaaGreat
namespace Go.Proofs.YtgbigpdiacjbgaaGreat
open Go.RowKit Go.WideShapes Go.ChangeShapes
namespace MO
open aJ Ops dG bQ
structure lY(w:World)(x:aH):Prop where
 m:Src w 2 x.mA x.ms.length (aZ x.ms)
 mc:x.ms.length<=x.mc
 o:Src w 3 x.oA x.ops.length (cells x.ops)
 e:Src w 4 x.eA x.es.length (jP x.es)
 eo:∀y∈x.es,Src w 3 y.A y.ops.length (cells y.ops)/\0<=y.ts/\y.ts<=aO
 s:Src w 1 x.sA x.ss.length (tK x.ss)
 so:∀y∈x.ss,0<=y/\y<=aO
 p:Src w 2 x.pA x.ps.length (Ops.dO x.ps)
 t:(0<=x.at'/\x.at'<=aO)/\(0<=x.last/\x.last<=aO)/\(0<=x.iT/\x.iT<=aO)
 i:I64 x.jQ
 pk:∀y∈x.ps,y.key.size<=maxLen/\y.val.size<=maxLen
 Eb:x.ps.length<=x.pc/\x.pc<=maxLen
 kt:x.key.size<=maxLen/\x.to.size<=maxLen
 is:I64 x.n/\I64 x.req/\I64 x.e/\I64 x.ep
 lens:x.ms.length<=maxLen/\x.ops.length<=maxLen/\x.es.length<=maxLen/\x.ss.length<=maxLen/\x.ps.length<=maxLen
theorem lY.kept{w w':World}{x:aH}(h:lY w x)(hk:Kept aj w w'):lY w' x:=
 ⟨h.m.kept hk (fun _ _ z=>z),h.mc,h.o.kept hk (fun _ _ z=>z),h.e.kept hk (fun _ _ z=>z),(fun y hy=>⟨(h.eo y hy).1.kept hk (fun _ _ z=>z),(h.eo y hy).2⟩),h.s.kept hk (fun _ _ z=>z),h.so,h.p.kept hk (fun _ _ z=>z),h.t,h.i,h.pk,h.Eb,h.kt,h.is,h.lens⟩
theorem lY.ok{w:World}{x:aH}(h:lY w x)(h1:x.ms.length<=20)(h3:x.es.length<=20)(h4:x.ss.length<=20)(h5:x.ps.length<=40):dM w x:=
 ⟨h.m,h.mc,by omega,h.o,h.e,h.eo,by omega,h.s,by omega,h.so,h.p,by omega,h.t⟩
theorem xO{H:Type}{enc:TypeId×Value->H}{P:Program}{w:World}{base:Nat}{spare:Nat->Bool}{held:Bool}{t:TypeId}{fs:Array Field}{fuel:Nat}{cs:List Value}{x:DataW H×List MemPlace}
  (ht:P.underlying t=some (.struct fs)) (h:DataW.trod enc P w base spare held fuel t cs=some x):
  cs.length=P.cellsOf t/\∃n,∀(i:Nat) (f:Field),fs[i]? =some f->∃y,DataW.trod enc P w base spare held n f.type ((cs.drop f.offset).take (P.cellsOf f.type))=some y:=by
 obtain⟨xs,n,_,rfl,hl,hlen,hf⟩:=DataW.trod_struct ht h;refine⟨hl,n,fun i f hi=> ?_⟩;have h1:=hf i f hi;have h2:i<xs.length:=by rw[hlen];exact(Array.getElem?_eq_some_iff.1 hi).1
 exact⟨xs[i],h1.trans (lB0 h2)⟩
section
variable{H:Type}{enc:TypeId×Value->H}{W:World}{v:Value}{d:DataW H}{ps:List MemPlace}{r:Reach}{b0:Nat}
theorem Ec{x:Int}(h:(Lit.int .u64 x).wf=true):0<=x/\x<=aO:=by unfold aO;simpa [Lit.wf,IntKind.min,IntKind.max,IntKind.signed,IntKind.bits]using h
theorem xP{t e:TypeId}{fuel:Nat}{c0:Value}{y:DataW H×List MemPlace}(ht:Tryz.prog.underlying t=some (.slice e))(h:DataW.trod enc Tryz.prog W 0 (fun _=>true) true fuel t [c0]=some y):
  (∃A n c,c0=.slice A n c)/\DataW.Trod enc Tryz.prog W 0 (fun _=>true) true t c0 y.1 y.2:=by
 have hv1:∃A n c,c0=.slice A n c:=by
  rcases Deep.open_slice ht h with⟨e,_⟩|⟨a,len,cap,_,_,_,_,e,_⟩
  ·simp at e;exact⟨_,_,_,e⟩
  ·simp at e;exact⟨_,_,_,e⟩
 refine⟨hv1,?_⟩;obtain⟨A,k',c,rfl⟩:=hv1;exact⟨fuel,h⟩

/- Part 6. -/
import Derived.Test.YtgbigpdiacjbgaaGreatKP04
import Derived.StillTailTactics
import Derived.Shelf.Sort.Plain
import Derived.Shelf.Slices.In.SortNone
import Derived.Sort.OwnSortedInts
import Derived.Lib.AppendZerosOnto
import Derived.Deep.WholeRow
set_option linter.unusedSimpArgs false
set_option linter.unusedVariables false
set_option maxHeartbeats 32000000
set_option maxRecDepth 100000
namespace Go.Proofs.YtgbigpdiacjbgaaGreat
open Go.RowKit Go.Shelf
namespace bg
def F8(w:World)(g:Nat)(lb:Array Value)(l:List Mem)(p:Mem->Bool):Prop:=
 ∀W m,Kept aj w W->m∈l->Calls Tryz.prog g (#[zK m]++lb) W fun e w'=>e=.returned (.bool (p m))/\Kept aj W w'
theorem F8.kept{w w':World}{g:Nat}{lb:Array Value}{l:List Mem}{p:Mem->Bool}(h:F8 w g lb l p)(hk:Kept aj w w'):F8 w' g lb l p:=fun W m hW hm=>h W m (hk.then hW) hm
def Bh(p:Mem->Bool)(l:List Mem):Bool:=l.any p
theorem Qz(w:World)(A:Option Addr)(c:Nat)(l:List Mem)(p:Mem->Bool)(g:Nat)(lb:Array Value)(hl:Src w 2 A l.length (dL l))(hlen:l.length<=1000000)
  (eg:∀args w,(callFunc g args).run Tryz.prog w=.ok (.enter g args) w) (hp:F8 w g lb l p):
  Calls Tryz.prog 188 #[.slice A l.length c,.func (.func g) #[] lb] w fun e w'=>(∃n:Int,e=.returned (.int .i64 n)/\(0<=n↔Bh p l=true))/\Kept aj w w':=by
 have HL:=ah hl;clear hl;have HP:=ah hp;clear hp;go_enter Tryz.func188,Tryz.ntmps188;go_wp2_with fail;go_loopw [8] (fun v8 wr=>∃i:Nat,i<=l.length/\v8=.int .i64 i/\Kept aj w wr/\Bh p l=Bh p (l.drop i)) (fun v8 _=>l.length-(intOf v8).toNat)
 case atStart=>exact⟨0,Nat.zero_le _,rfl,Kept.refl _ _,rfl⟩
 case round=>
  obtain⟨i,hi,rfl,hk,he⟩:=hrel;have HK:=ah hk;clear hk;have HE:=ah he;clear he;by_cases hil:i<l.length
  ·obtain⟨m,hm⟩:∃m,l[i]? =some m:=⟨_,List.getElem?_eq_getElem hil⟩;obtain⟨ad,hA,had,d0,d1⟩:=qX (HL.out.kept HK.out (fun _ _ x=>x)) (by omega) i m hm;subst hA;have hcall:=HP.out wr m HK.out (List.mem_of_getElem? hm);have hs:Bh p (l.drop i)=(p m||Bh p (l.drop (i+1))):=by unfold Bh;rw[drop_cons hm,List.any_cons]
   obtain⟨b,hb⟩:∃b,p m=b:=⟨_,rfl⟩;rw[hb]at hcall hs;have HS:=ah hs;clear hs hm hb;obtain⟨m1,m2⟩:=m;unfold zK at hcall;dsimp only at d0 d1 hcall;have HC:=ah hcall;clear hcall;cases b
   ·go_wp2_with fail;refine HC.out.mono ?_;rintro e w2 ⟨rfl,hk2⟩;have hk3:=HK.out.then hk2;have dI:=ah hk3;clear hk3 hk2;go_wp2;go_roundw
    case rel=>exact⟨i+1,by omega,by go_num,dI.out,by rw[HE.out,HS.out];rfl⟩
    case measure=>simp[intOf];omega
   ·go_wp2_with fail;refine HC.out.mono ?_;rintro e w2 ⟨rfl,hk2⟩;have hk3:=HK.out.then hk2;have dI:=ah hk3;clear hk3 hk2;go_wp2;go_ret;exact⟨⟨_,rfl,⟨fun _=>by rw[HE.out,HS.out];rfl,fun _=>by omega⟩⟩,dI.out⟩
  ·obtain rfl:i=l.length:=by omega
   go_wp2;go_ret;exact⟨⟨-1,rfl,⟨fun h=>by omega,fun h=>by rw[HE.out,List.drop_length]at h;cases h⟩⟩,HK.out⟩
theorem J9(w:World)(A:Option Addr)(c:Nat)(l:List Mem)(p:Mem->Bool)(g:Nat)(lb:Array Value)(hl:Src w 2 A l.length (dL l))(hlen:l.length<=1000000)
  (eg:∀args w,(callFunc g args).run Tryz.prog w=.ok (.enter g args) w) (hp:F8 w g lb l p):
  Calls Tryz.prog 185 #[.slice A l.length c,.func (.func g) #[] lb] w fun e w'=>e=.returned (.bool (Bh p l))/\Kept aj w w':=by
 have hi:=Qz w A c l p g lb hl hlen eg hp;have HI:=ah hi;clear hi hl hp eg;obtain⟨b,hb⟩:∃b,Bh p l=b:=⟨_,rfl⟩;rw[hb]at HI⊢;clear hb;go_enter Tryz.func185,Tryz.ntmps185;go_wp2_with fail;refine HI.out.mono ?_;rintro e w2 ⟨⟨n,rfl,hn⟩,hk⟩;have HN:=ah hn;clear hn;go_wp2;go_ret;refine⟨?_,hk⟩;have h:=HN.out;cases b
 ·have:decide (0<=n)=false:=by rw[decide_eq_false_iff_not];intro x;have:=h.1 x;cases this
  rw[<-this];rfl
 ·have:decide (0<=n)=true:=by rw[decide_eq_true_eq];exact h.2 rfl
  rw[<-this];rfl
theorem twin_any(W:World)(B:Nat)(m x:Mem)(hB:Has W B 175 #[.int .i64 m.1,.int .i64 m.2]):
  Calls Tryz.prog 184 #[zK x,.pointer (some ⟨B,0,none⟩)] W fun e w'=>e=.returned (.bool (decide (x.1=m.1)))/\Kept aj W w':=by
 have hlt:=hB.lt;have hne:B≠W.heap.size:=by omega
 obtain⟨x1,x2⟩:=x;obtain⟨m1,m2⟩:=m;have c0:∀o,(W.alloc o).cell? ⟨B,0,none⟩=some (.int .i64 m1):=fun o=>(hB.alloc o).cell 0;clear hB hlt;unfold zK;dsimp only;go_enter Tryz.func184,Tryz.ntmps184;go_wp2;go_ret;exact⟨by by_cases h:x1=m1<;>simp[h],(Kept.refl _ _).alloc _⟩
theorem YH:∀args w,(callFunc 184 args).run Tryz.prog w=.ok (.enter 184 args) w:=enters_of Tryz.func184 (by kernel_rfl) rfl
theorem one_any(w:World)(A:Option Addr)(c:Nat)(l:List Mem)(m:Mem)(hl:Src w 2 A l.length (dL l))(hlen:l.length<=1000000):
  Calls Tryz.prog 174 #[zK m,.slice A l.length c] w fun e w'=>e=.returned (.int .i64 (rZ m l))/\Kept aj w w':=by
 have hone:rZ m l=if m.1<0\/4<=m.1 then 1 else if m.2<1\/1073741824<m.2 then 5 else if Bh (fun x=>decide (x.1=m.1)) l then 18 else 0:=rfl;have hnb:=Has.new w 175 #[.int .i64 m.1,.int .i64 m.2]
 have hco:=J9 (w.alloc (.cells #[.int .i64 m.1,.int .i64 m.2] 175)) A c l (fun x=>decide (x.1=m.1)) 184 #[.pointer (some ⟨w.heap.size,0,none⟩)] (hl.kept ((Kept.refl aj w).alloc _) (fun _ _ x=>x)) hlen YH
  (fun W x hW _=>twin_any W w.heap.size m x (hnb.kept hW (fun x=>x)))
 obtain⟨b,hb⟩:∃b,Bh (fun x=>decide (x.1=m.1)) l=b:=⟨_,rfl⟩;rw[hb]at hco hone;have YI:=ah hco;clear hco hnb hl hb;obtain⟨r,hr⟩:∃r,rZ m l=r:=⟨_,rfl⟩;rw[hr]at hone⊢;clear hr;obtain⟨m1,m2⟩:=m;unfold zK;dsimp only at hone YI⊢;have Ko:=ah hone;clear hone;by_cases g1:m1<0
 ·have h1:=Ko.out;rw[if_pos (.inl g1)]at h1;subst h1;go_enter Tryz.func174,Tryz.ntmps174;go_wp2;go_ret;exact⟨rfl,(Kept.refl _ _).alloc _⟩
 by_cases g2:4<=m1
 ·have h1:=Ko.out;rw[if_pos (.inr g2)]at h1;subst h1;go_enter Tryz.func174,Tryz.ntmps174;go_wp2;go_ret;exact⟨rfl,(Kept.refl _ _).alloc _⟩
 by_cases g3:m2<1
 ·have h1:=Ko.out;rw[if_neg (by omega),if_pos (.inl g3)]at h1;subst h1;go_enter Tryz.func174,Tryz.ntmps174;go_wp2;go_ret;exact⟨rfl,(Kept.refl _ _).alloc _⟩
 by_cases g4:1073741824<m2
 ·have h1:=Ko.out;rw[if_neg (by omega),if_pos (.inr g4)]at h1;subst h1;go_enter Tryz.func174,Tryz.ntmps174;go_wp2;go_ret;exact⟨rfl,(Kept.refl _ _).alloc _⟩
 have h1:=Ko.out;rw[if_neg (by omega),if_neg (by omega)]at h1;cases b
 ·rw[if_neg (by decide)]at h1;subst h1;go_enter Tryz.func174,Tryz.ntmps174;go_wp2_with fail;refine YI.out.mono ?_;rintro e w2 ⟨rfl,hk⟩;go_wp2;go_ret;exact⟨rfl,((Kept.refl _ _).alloc _).then hk⟩
 ·rw[if_pos rfl]at h1;subst h1;go_enter Tryz.func174,Tryz.ntmps174;go_wp2_with fail;refine YI.out.mono ?_;rintro e w2 ⟨rfl,hk⟩;go_wp2;go_ret;exact⟨rfl,((Kept.refl _ _).alloc _).then hk⟩
end bg
end Go.Proofs.YtgbigpdiacjbgaaGreat
namespace Go.Proofs.YtgbigpdiacjbgaaGreat
open Go.RowKit Go.Shelf Go.Maps
namespace bg
def I64(k:Int):Prop:=(Lit.int .i64 k).wf=true
def Ci(w:World)(b n:Nat)(s:Int->Bool):Prop:=
 ∃D:DataW Unit,w.ownsMap Tryz.prog 3 (plainElem Tryz.prog 4) b n D/\∀k,I64 k->D.atKey (.int .i64 k) (.lit (.bool false))=.lit (.bool (s k))
theorem Ci.lt{w:World}{b n:Nat}{s:Int->Bool}(h:Ci w b n s):b<w.heap.size:=by obtain⟨D,h,_⟩:=h;exact h.lt
theorem Ci.kept{F:Nat->Prop}{w w':World}{b n:Nat}{s:Int->Bool}(h:Ci w b n s)(hk:Kept F w w')(hf:¬F b):Ci w' b n s:=by obtain⟨D,ho,hD⟩:=h;have hlt:=ho.lt;obtain⟨es,clock,hb,hF,hs,e⟩:=ho;exact⟨D,⟨es,clock,(hk.block b hlt hf).trans hb,hF,hs,e⟩,hD⟩
theorem Ci.ne{w:World}{b n g:Nat}{s:Int->Bool}{t:TypeId}{cs:Array Value}(h:Ci w b n s)(hg:Has w g t cs):b≠g:=by rintro rfl;obtain⟨D,⟨es,clock,hb,_⟩,_⟩:=h;unfold Has at hg;rw[hg]at hb;cases hb
end bg
end Go.Proofs.YtgbigpdiacjbgaaGreat
namespace Go.Proofs.YtgbigpdiacjbgaaGreat
open Go.RowKit Go.WideShapes Go.ChangeShapes
namespace MO
open bg Ops fG eP
structure EK(w:World)(x:aO):Prop where
 m:Src w 2 x.mA x.ms.length (dL x.ms)
 mc:x.ms.length<=x.mc
 o:Src w 3 x.oA x.ops.length (cells x.ops)
 e:Src w 4 x.eA x.es.length (kM x.es)
 eo:∀y∈x.es,Src w 3 y.A y.ops.length (cells y.ops)/\0<=y.ts/\y.ts<=aY
 s:Src w 1 x.sA x.ss.length (rH x.ss)
 so:∀y∈x.ss,0<=y/\y<=aY
 p:Src w 2 x.pA x.ps.length (Ops.bI x.ps)
 t:(0<=x.at'/\x.at'<=aY)/\(0<=x.last/\x.last<=aY)/\(0<=x.mG/\x.mG<=aY)
 i:I64 x.tK
 pk:∀y∈x.ps,y.key.size<=maxLen/\y.val.size<=maxLen
 abf:x.ps.length<=x.pc/\x.pc<=maxLen
 kt:x.key.size<=maxLen/\x.to.size<=maxLen
 is:I64 x.n/\I64 x.req/\I64 x.e/\I64 x.ep
 lens:x.ms.length<=maxLen/\x.ops.length<=maxLen/\x.es.length<=maxLen/\x.ss.length<=maxLen/\x.ps.length<=maxLen
theorem EK.kept{w w':World}{x:aO}(h:EK w x)(hk:Kept aj w w'):EK w' x:=
 ⟨h.m.kept hk (fun _ _ z=>z),h.mc,h.o.kept hk (fun _ _ z=>z),h.e.kept hk (fun _ _ z=>z),(fun y hy=>⟨(h.eo y hy).1.kept hk (fun _ _ z=>z),(h.eo y hy).2⟩),h.s.kept hk (fun _ _ z=>z),h.so,h.p.kept hk (fun _ _ z=>z),h.t,h.i,h.pk,h.abf,h.kt,h.is,h.lens⟩
theorem EK.ok{w:World}{x:aO}(h:EK w x)(h1:x.ms.length<=20)(h3:x.es.length<=20)(h4:x.ss.length<=20)(h5:x.ps.length<=40):pU w x:=
 ⟨h.m,h.mc,by omega,h.o,h.e,h.eo,by omega,h.s,by omega,h.so,h.p,by omega,h.t⟩
theorem Kq{H:Type}{enc:TypeId×Value->H}{P:Program}{w:World}{base:Nat}{spare:Nat->Bool}{held:Bool}{t:TypeId}{fs:Array Field}{fuel:Nat}{cs:List Value}{x:DataW H×List MemPlace}
  (ht:P.underlying t=some (.struct fs)) (h:DataW.trod enc P w base spare held fuel t cs=some x):
  cs.length=P.cellsOf t/\∃n,∀(i:Nat) (f:Field),fs[i]? =some f->∃y,DataW.trod enc P w base spare held n f.type ((cs.drop f.offset).take (P.cellsOf f.type))=some y:=by
 obtain⟨xs,n,_,rfl,hl,hlen,hf⟩:=DataW.trod_struct ht h;refine⟨hl,n,fun i f hi=> ?_⟩;have h1:=hf i f hi;have h2:i<xs.length:=by rw[hlen];exact(Array.getElem?_eq_some_iff.1 hi).1
 exact⟨xs[i],h1.trans (List.getElem?_eq_getElem h2)⟩
section
variable{H:Type}{enc:TypeId×Value->H}{W:World}{v:Value}{d:DataW H}{ps:List MemPlace}{r:Reach}{b0:Nat}
theorem abg{x:Int}(h:(Lit.int .u64 x).wf=true):0<=x/\x<=aY:=by unfold aY;simpa [Lit.wf,IntKind.min,IntKind.max,IntKind.signed,IntKind.bits]using h
theorem UF{t e:TypeId}{fuel:Nat}{c0:Value}{y:DataW H×List MemPlace}(ht:Tryz.prog.underlying t=some (.slice e))(h:DataW.trod enc Tryz.prog W 0 (fun _=>true) true fuel t [c0]=some y):
  (∃A n c,c0=.slice A n c)/\DataW.Trod enc Tryz.prog W 0 (fun _=>true) true t c0 y.1 y.2:=by
 have hv1:∃A n c,c0=.slice A n c:=by
  rcases Deep.open_slice ht h with⟨e,_⟩|⟨a,len,cap,_,_,_,_,e,_⟩
  ·simp at e;exact⟨_,_,_,e⟩
  ·simp at e;exact⟨_,_,_,e⟩
 refine⟨hv1,?_⟩;obtain⟨A,k',c,rfl⟩:=hv1;exact⟨fuel,h⟩
end
end MO
namespace Ask
open bg Ops fG eP MO
def eX(w:World)(a:Addr):Array Value:=((List.range 22).map fun j=>(w.cell? (a.add j)).getD undef).toArray
def fD(w:World)(a:Addr):Prop:=∀j,j<22->(w.cell? (a.add j)).isSome=true
def uH(a:Addr):Sem Value:=loadVar 63 a
theorem cZ(a:Addr):loadVar 63 a=uH a:=rfl
theorem ni(w:World)(a:Addr)(h:fD w a):(uH a).run Tryz.prog w=.ok (.agg (eX w a)) w:=by
 have hl:=run_loadCells (P:=Tryz.prog) w a 22 (fun j=>(w.cell? (a.add j)).getD undef) (fun j hj=>by obtain⟨v,hv⟩:=Option.isSome_iff_exists.1 (h j hj);rw[hv];rfl)
 have hi:(Tryz.prog.info? 63).map (·.size)=some 22:=by kernel_rfl
 have hagg:∀W,(isAgg 63).run Tryz.prog W=.ok true W:=fun W=>by unfold isAgg;rw[Sem.run_bind,run_underlying Tryz.underlying63 W];rfl
 cases hq:Tryz.prog.info? 63 with
 |none=>simp[hq]at hi
 |some i=>
  have hs:i.size=22:=by simpa [hq]using hi
  unfold uH;simp[loadVar,Sem.run_bind,hagg,sizeOf,typeInfo,hq,hs,hl,eX]
theorem xW{w:World}{a:Addr}{cs:List Value}(hn:cs.length=22)(h:∀j u,cs[j]? =some u->w.cell? (a.add j)=some u):fD w a/\eX w a=cs.toArray:=by
 refine⟨fun j hj=> ?_,?_⟩
 ·rw[h j _ (List.getElem?_eq_getElem (by omega))];rfl
 ·unfold eX;congr 1;apply List.ext_getElem?
  intro j;rcases Nat.lt_or_ge j 22 with hj|hj
  ·rw[List.getElem?_map,List.getElem?_range hj,List.getElem?_eq_getElem (by omega:j<cs.length)];simp[h j _ (List.getElem?_eq_getElem (by omega:j<cs.length))]
  ·rw[List.getElem?_eq_none (by simpa using hj),List.getElem?_eq_none (by omega)]
theorem Hw(w:World)(a:Addr)(cs:List Value)(hn:cs.length=22)(h:∀j u,cs[j]? =some u->w.cell? (a.add j)=some u):(uH a).run Tryz.prog w=.ok (.agg cs.toArray) w:=by obtain⟨h1,h2⟩:=xW hn h;rw[ni w a h1,h2]
theorem aH(w:World)(g:Nat)(x:aO)(h:Has w g 63 (au x).toArray):(uH ⟨g,0,none⟩).run Tryz.prog w=.ok (.agg (au x).toArray) w:=by
 refine Hw w _ _ rfl fun j u hu=> ?_;have e1:((⟨g,0,none⟩:Addr).add j)=⟨g,j,none⟩:=by unfold Addr.add;split<;>simp_all
 rw[e1,h.cell];simpa using hu
def jV(a:Addr)(v:Value):Sem Unit:=storeVar 63 a v
theorem bW(a:Addr)(v:Value):storeVar 63 a v=jV a v:=rfl
theorem Na(W:World)(g:Nat)(cs:Array Value):Kept (fun k=>k=g) W (W.setRow g cs):=
 ⟨rfl,rfl,rfl,by unfold World.setRow;simp,fun k hk hF=>by unfold World.setRow;rw[Array.getElem?_modify,if_neg (fun e=>hF e.symm)]⟩
theorem WM(x:aO):(au x).toArray.all (·.oneCell')=true:=by simp[au,Value.oneCell']
abbrev fH:Array Value:=#[.int .i64 0,.int .i64 0,.int .i64 0,.int .i64 0,.bool false,.int .u64 0,.int .u64 0,.int .i64 0,.int .i64 0,.int .i64 0,.int .i64 0,.string ⟨#[]⟩,.string ⟨#[]⟩,.int .i64 0,.slice none 0 0,.int .u64 0,.int .i64 0,.int .i64 0,.slice none 0 0,.slice none 0 0,.slice none 0 0,.slice none 0 0]
theorem kK(w:World)(x:aO):∃Wz W8,w.alloc (.cells fH 63)=Wz/\(jV ⟨w.heap.size,0,none⟩ (.agg (au x).toArray)).run Tryz.prog Wz=.ok () W8/\Has W8 w.heap.size 63 (au x).toArray/\Kept aj w W8:=by have hz:Has (w.alloc (.cells fH 63)) w.heap.size 63 fH:=Has.new _ _ _;have e1:(w.alloc (.cells fH 63)).setRow w.heap.size (au x).toArray=w.alloc (.cells (au x).toArray 63):=World.setRow_alloc_new ..;refine⟨_,w.alloc (.cells (au x).toArray 63),rfl,?_,Has.new _ _ _,by(repeat'(first|(with_reducible first|exact ay|apply aA|apply aB|apply aC|apply aF)|(right;simp;done)))⟩;rw[<-e1];exact run_storeVar_row _ w.heap.size _ _ _ _ hz (show(Tryz.prog.info? 63).map (·.size)=some 22 by kernel_rfl) rfl (WM x)
structure YJ where
 k:Int
 n:Int
 fr:Int
 x:aO
def Ov(w:World)(a:YJ):Prop:=EK w a.x/\I64 a.n/\I64 a.fr
theorem Ov.kept{w w':World}{a:YJ}(h:Ov w a)(hk:Kept aj w w'):Ov w' a:=⟨h.1.kept hk,h.2⟩
section
variable{H:Type}{enc:TypeId×Value->H}{W:World}{v:Value}{d:DataW H}{ps:List MemPlace}{r:Reach}{b0:Nat}
def uZ(w:World)(a:iZ):Prop:=Src w 3 a.A a.ops.length (cells a.ops)/\a.ops.length<=a.c/\a.c<=maxLen/\(∀o∈a.ops,o.key.size<=maxLen/\o.val.size<=maxLen)/\I64 a.k/\I64 a.nd/\I64 a.n/\(0<=a.at'/\a.at'<=aY)/\a.key.size<=maxLen/\a.to.size<=maxLen
theorem uZ.kept{w w':World}{a:iZ}(h:uZ w a)(hk:Kept aj w w'):uZ w' a:=⟨h.1.kept hk (fun _ _ z=>z),h.2⟩
theorem QA(fuel:Nat)(cs:List Value)(y:DataW H×List MemPlace)(hy:DataW.trod enc Tryz.prog W 0 (fun _=>true) true fuel 25 cs=some y):∃a,cs=bQ a/\uZ W a:=by
 obtain⟨hl,n,hf⟩:=Kq Tryz.underlying25 hy;have hC:Tryz.prog.cellsOf 25=7:=by kernel_rfl
 rw[hC]at hl;match cs,hl with
 |[c0,c1,c2,c3,c4,c5,c6],_=>
  have e3:Tryz.prog.cellsOf 3=1:=by kernel_rfl
  have e9:Tryz.prog.cellsOf 9=1:=by kernel_rfl
  have eU:Tryz.prog.cellsOf 22=1:=by kernel_rfl
  have eO:Tryz.prog.cellsOf 23=1:=by kernel_rfl
  obtain⟨_,h0⟩:=hf 0 _ rfl;obtain⟨_,h1⟩:=hf 1 _ rfl;obtain⟨_,h2⟩:=hf 2 _ rfl;obtain⟨_,h3⟩:=hf 3 _ rfl;obtain⟨_,h4⟩:=hf 4 _ rfl;obtain⟨_,h5⟩:=hf 5 _ rfl;obtain⟨_,h6⟩:=hf 6 _ rfl;obtain⟨x0,hx0,_,m0⟩:=DataW.trod_int Tryz.underlying3 h0;obtain⟨x1,hx1,_,m1⟩:=DataW.trod_int Tryz.underlying3 h1;obtain⟨x2,hx2,_,m2⟩:=DataW.trod_string Tryz.underlying9 h2;obtain⟨x3,hx3,_,m3⟩:=DataW.trod_string Tryz.underlying9 h3;obtain⟨x4,hx4,_,m4⟩:=DataW.trod_int Tryz.underlying22 h4;obtain⟨x5,hx5,_,m5⟩:=DataW.trod_int Tryz.underlying3 h5;simp[e3]at hx0 hx1;simp[e9]at hx2 hx3;simp[eU]at hx4;simp[e3]at hx5;simp[eO]at h6;subst hx0 hx1 hx2 hx3 hx4 hx5;obtain⟨hv6,t6⟩:=UF Tryz.underlying23 h6;obtain⟨A,c,l,rfl,q1,q2,q3,q4⟩:=_root_.Go.Proofs.YtgbigpdiacjbgaaGreat.Qs hv6 t6;exact⟨⟨x0,x1,x2,x3,x4,x5,A,c,l⟩,rfl,q3,q1,q2,q4,m0,m1,m5,abg m4,m2,m3⟩
end
end Ask
end Go.Proofs.YtgbigpdiacjbgaaGreat
namespace Go.Proofs.YtgbigpdiacjbgaaGreat
open Go.RowKit
namespace Ask
open bg Ops fG eP MO
structure PX where
 b:Nat
 g:Nat
 bA:Option Addr
 bc:Nat
 pA:Option Addr
 pc:Nat
 rA:Option Addr
 rc:Nat
def fM(X:PX)(t:TS):List Value:=[.int .i64 t.cl,.int .i64 t.rq,.slice X.bA t.bo.length X.bc]++bQ t.a
def pI(X:PX)(t:TS):Value:=if t.ph=0 then .iface 111 (.agg (fM X t).toArray)else if t.ph=1 then .iface 112 (.pointer (some ⟨X.g,0,none⟩))else .iface 115 (.agg (fM X t).toArray)
def uI(X:PX)(t:TS):Array Value:=#[pI X t,.int .i64 t.rq,.int .i64 t.waits,.bool t.dn,.int .i64 t.r.req,.int .i64 t.r.e,.int .u64 t.r.at',.int .i64 t.r.pin,.slice X.rA t.r.ps.length X.rc]
def rJ(X:PX)(t:TS):Array Value:=(fM X t++([.int .u64 t.at',.string t.key,.slice X.pA t.ps.length X.pc]:List Value)).toArray
structure kN(w:World)(X:PX)(t:TS):Prop where
 b:Has w X.b 109 (uI X t)
 g:t.ph=1->Has w X.g 114 (rJ X t)
 g0:t.ph≠1->X.g=X.b/\X.pA=none/\X.pc=0/\t.ps=[]
 bo:w.ownsRow 0 143 3 (.slice X.bA t.bo.length X.bc) t.bo.length (cells t.bo)
 p:w.ownsRow 0 84 2 (.slice X.pA t.ps.length X.pc) t.ps.length (bI t.ps)
 r:w.ownsRow 0 84 2 (.slice X.rA t.r.ps.length X.rc) t.r.ps.length (bI t.r.ps)
 nd:t.dn=false->t.r=oH/\X.rA=none/\X.rc=0
def jW(X:PX)(t:TS)(k:Nat):Prop:=k=X.b\/k=X.g\/(Value.slice X.pA t.ps.length X.pc).ownBlock=some k\/(Value.slice X.bA t.bo.length X.bc).ownBlock=some k\/(Value.slice X.rA t.r.ps.length X.rc).ownBlock=some k
section
variable{w w':World}{X:PX}{t:TS}{G:Nat->Prop}
theorem kN.lQ(h:kN w X t)(hk:Kept G w w')(hs:∀k,jW X t k->¬G k):kN w' X t:=
 ⟨h.b.kept hk (hs _ (.inl rfl)),fun e=>(h.g e).kept hk (hs _ (.inr (.inl rfl))),h.g0,aP h.bo hk (fun k hk=>hs k (.inr (.inr (.inr (.inl hk))))),aP h.p hk (fun k hk=>hs k (.inr (.inr (.inl hk)))),aP h.r hk (fun k hk=>hs k (.inr (.inr (.inr (.inr hk))))),h.nd⟩
theorem kN.quiet(h:kN w X t)(hk:Kept aj w w'):kN w' X t:=h.lQ hk (fun _ _ z=>z)
theorem kN.lt(h:kN w X t){k:Nat}(hf:jW X t k):k<w.heap.size:=by
 rcases hf with rfl|rfl|hf|hf|hf
 ·exact h.b.lt
 ·by_cases e:t.ph=1
  ·exact(h.g e).lt
  ·rw[(h.g0 e).1];exact h.b.lt
 ·exact jB h.p hf
 ·exact jB h.bo hf
 ·exact jB h.r hf
theorem UG(X:PX)(t:TS):∃ty v,pI X t=.iface ty v:=by
 unfold pI;split
 ·exact⟨_,_,rfl⟩
 split
 ·exact⟨_,_,rfl⟩
 ·exact⟨_,_,rfl⟩
theorem xX(h:kN w X t):Calls Tryz.prog 55 #[.pointer (some ⟨X.b,0,none⟩)] w fun e w'=>e=.returned (.bool false)/\w=w':=by have q:w.cell? ⟨X.b,0,none⟩=some (pI X t):=h.b.cell 0;obtain⟨ty,pv,hpv⟩:=UG X t;rw[hpv]at q;clear hpv h;go_enter Tryz.func55,Tryz.ntmps55;go_wp2;go_ret;exact⟨rfl,rfl⟩
theorem EY(w:World)(i:Int):Calls Tryz.prog 85 #[.int .i64 i] w fun e w'=>e=.returned (.bool (decide (0<=i/\i<4)))/\w=w':=by
 obtain⟨v,hv⟩:∃v,decide (0<=i/\i<4)=v:=⟨_,rfl⟩;rw[hv];go_enter Tryz.func85,Tryz.ntmps85;by_cases h0:0<=i
 ·by_cases h1:i<4
  ·go_wp2;go_ret;exact⟨by rw[<-hv];simp[h0,h1],rfl⟩
  ·go_wp2;go_ret;exact⟨by rw[<-hv];simp[h0,h1],rfl⟩
 ·go_wp2;go_ret;exact⟨by rw[<-hv];simp;omega,rfl⟩
def dY(w:World)(X:PX)(t:TS)(v:Value)(t':TS)(e:Ending)(w':World):Prop:=
 e=.returned v/\∃X',kN w' X' t'/\X'.b=X.b/\(∀k,jW X' t' k->jW X t k\/w.heap.size<=k)/\Kept (jW X t) w w'
theorem qO(h:kN w X t)(r:o8)(A:Option Addr)(c:Nat)(hr:w.ownsRow 0 84 2 (.slice A r.ps.length c) r.ps.length (bI r.ps)):
  Calls Tryz.prog 67 #[.pointer (some ⟨X.b,0,none⟩),nV r A c] w fun e w'=>e=.returned (.tuple #[])/\kN w' {X with rA:=A,rc:=c} (eG t r)/\Kept (fun k=>k=X.b) w w':=by
 obtain⟨bb,gb,bA,bc,pA,pc,rA,rc⟩:=X;obtain⟨W0,hW0⟩:∃W0,w.alloc (.cells (iO r A c).toArray 36)=W0:=⟨_,rfl⟩;have hk0:Kept aj w W0:=by rw[<-hW0];(repeat'(first|(with_reducible first|exact ay|apply aA|apply aB|apply aC|apply aF)|(right;simp;done)))
 have hn0:Has W0 w.heap.size 36 (iO r A c).toArray:=by rw[<-hW0];exact Has.new _ _ _
 have hne:w.heap.size≠bb:=fun e=>by have:=h.b.lt;dsimp only at this;omega
 have hb0:=h.b.kept hk0 (fun z=>z);have hh:∀w',Has w' bb 109 (uI ⟨bb,gb,bA,bc,pA,pc,A,c⟩ (eG t r))->Kept (fun k=>k=bb) W0 w'->kN w' ⟨bb,gb,bA,bc,pA,pc,A,c⟩ (eG t r)/\Kept (fun k=>k=bb) w w':=fun w' hb hk=>by
  have hkk:=(hk0.mono (G:=fun k=>k=bb) (fun _ z=>z.elim)).then hk
  exact⟨⟨hb,fun e=>by have hg:=h.g e;exact hg.kept hkk (fun e2=>(Has.ne hg h.b (by decide)) e2),h.g0,aP h.bo hkk (fun k hk2 e2=>own_ne h.bo h.b (by decide) (e2▸hk2)),aP h.p hkk (fun k hk2 e2=>own_ne h.p h.b (by decide) (e2▸hk2)),aP hr hkk (fun k hk2 e2=>own_ne hr h.b (by decide) (e2▸hk2)),fun e=>by cases e⟩,hkk⟩
 unfold uI at hb0;dsimp only at hb0;have HH:=ah hh;have iV:pI ⟨bb,gb,bA,bc,pA,pc,A,c⟩ (eG t r)=pI ⟨bb,gb,bA,bc,pA,pc,rA,rc⟩ t:=rfl;obtain⟨pv,hpv⟩:∃pv,pI ⟨bb,gb,bA,bc,pA,pc,rA,rc⟩ t=pv:=⟨_,rfl⟩;rw[hpv]at hb0 iV;have iK:=ah iV;have b0:W0.cell? ⟨bb,0,none⟩=some pv:=hb0.cell 0;have b1:W0.cell? ⟨bb,1,none⟩=some (.int .i64 t.rq):=hb0.cell 1;have b3:W0.cell? ⟨bb,3,none⟩=some (.bool t.dn):=hb0.cell 3;have b4:W0.cell? ⟨bb,4,none⟩=some (.int .i64 t.r.req):=hb0.cell 4;have b5:W0.cell? ⟨bb,5,none⟩=some (.int .i64 t.r.e):=hb0.cell 5;have b6:W0.cell? ⟨bb,6,none⟩=some (.int .u64 t.r.at'):=hb0.cell 6;have b7:W0.cell? ⟨bb,7,none⟩=some (.int .i64 t.r.pin):=hb0.cell 7;have b8:W0.cell? ⟨bb,8,none⟩=some (.slice rA t.r.ps.length rc):=hb0.cell 8;have f3:=hb0.frozen 3;have f4:=hb0.frozen 4;have f5:=hb0.frozen 5;have f6:=hb0.frozen 6;have f7:=hb0.frozen 7;have f8:=hb0.frozen 8;have a0:W0.cell? ⟨w.heap.size,0,none⟩=some (.int .i64 r.req):=hn0.cell 0;have a1:W0.cell? ⟨w.heap.size,1,none⟩=some (.int .i64 r.e):=hn0.cell 1;have a2:W0.cell? ⟨w.heap.size,2,none⟩=some (.int .u64 r.at'):=hn0.cell 2;have a3:W0.cell? ⟨w.heap.size,3,none⟩=some (.int .i64 r.pin):=hn0.cell 3;have a4:W0.cell? ⟨w.heap.size,4,none⟩=some (.slice A r.ps.length c):=hn0.cell 4;have HB0:=ah hb0;unfold iO at hW0;unfold nV iO;clear hh hk0 hn0 hb0 h hr iV hpv;go_enter Tryz.func67,Tryz.ntmps67;go_wp2_with fail
 go_region_held3 (fun W=>W.cell? ⟨w.heap.size,0,none⟩=some (.int .i64 r.req)/\W.cell? ⟨w.heap.size,1,none⟩=some (.int .i64 r.e)/\W.cell? ⟨w.heap.size,2,none⟩=some (.int .u64 r.at')/\W.cell? ⟨w.heap.size,3,none⟩=some (.int .i64 r.pin)/\W.cell? ⟨w.heap.size,4,none⟩=some (.slice A r.ps.length c))
  (first|with_reducible exact⟨a0,a1,a2,a3,a4⟩|(simp[go_sem,a0,a1,a2,a3,a4,hne,hne.symm];done))
  (fail)
 go_wp2;go_end0;refine⟨rfl,HH.out _ ?_ ?_⟩
 ·have e9:uI ⟨bb,gb,bA,bc,pA,pc,A,c⟩ (eG t r)=#[pv,.int .i64 t.rq,.int .i64 t.waits,.bool true,.int .i64 t.rq,.int .i64 r.e,.int .u64 r.at',.int .i64 r.pin,.slice A r.ps.length c]:=by unfold uI;rw[iK.out];rfl
  rw[e9];have g1:=Has.aQ (cs':=#[pv,.int .i64 t.rq,.int .i64 t.waits,.bool true,.int .i64 t.r.req,.int .i64 t.r.e,.int .u64 t.r.at',.int .i64 t.r.pin,.slice rA t.r.ps.length rc]) (i:=3) (u:=.bool true) HB0.out rfl;have g2:=Has.aQ (cs':=#[pv,.int .i64 t.rq,.int .i64 t.waits,.bool true,.int .i64 r.req,.int .i64 t.r.e,.int .u64 t.r.at',.int .i64 t.r.pin,.slice rA t.r.ps.length rc]) (i:=4) (u:=.int .i64 r.req) g1 rfl;have g3:=Has.aQ (cs':=#[pv,.int .i64 t.rq,.int .i64 t.waits,.bool true,.int .i64 r.req,.int .i64 r.e,.int .u64 t.r.at',.int .i64 t.r.pin,.slice rA t.r.ps.length rc]) (i:=5) (u:=.int .i64 r.e) g2 rfl;have g4:=Has.aQ (cs':=#[pv,.int .i64 t.rq,.int .i64 t.waits,.bool true,.int .i64 r.req,.int .i64 r.e,.int .u64 r.at',.int .i64 t.r.pin,.slice rA t.r.ps.length rc]) (i:=6) (u:=.int .u64 r.at') g3 rfl;have g5:=Has.aQ (cs':=#[pv,.int .i64 t.rq,.int .i64 t.waits,.bool true,.int .i64 r.req,.int .i64 r.e,.int .u64 r.at',.int .i64 r.pin,.slice rA t.r.ps.length rc]) (i:=7) (u:=.int .i64 r.pin) g4 rfl;have g6:=Has.aQ (cs':=#[pv,.int .i64 t.rq,.int .i64 t.waits,.bool true,.int .i64 r.req,.int .i64 r.e,.int .u64 r.at',.int .i64 r.pin,.slice A r.ps.length c]) (i:=8) (u:=.slice A r.ps.length c) g5 rfl;have g7:=Has.aQ (cs':=#[pv,.int .i64 t.rq,.int .i64 t.waits,.bool true,.int .i64 t.rq,.int .i64 r.e,.int .u64 r.at',.int .i64 r.pin,.slice A r.ps.length c]) (i:=4) (u:=.int .i64 t.rq) g6 rfl;exact g7.drew
 ·(repeat'(first|(with_reducible first|exact ay|apply aA|apply aB|apply aC|apply aF)|(exact .inl rfl)|(right;simp;done)))

/- Part 4. -/
import Derived.Test.YtgbigpdiacjbgaaGreatKP02
import Derived.Test.YtgbigpdiacjbgaaGreatRows
set_option linter.unusedSimpArgs false
set_option linter.unusedVariables false
set_option maxHeartbeats 32000000
set_option maxRecDepth 100000
namespace Go.Proofs.YtgbigpdiacjbgaaGreat
open Go.RowKit Go.Shelf
namespace Ops
open Vn
theorem oG(a b:ByteArray):(a.toList==b.toList)=decide (a=b):=by
 rw[ByteArray.toList_eq,ByteArray.toList_eq];by_cases h:a=b
 ·simp[h]
 ·have:a.data.toList≠b.data.toList:=fun e=>h (ByteArray.ext (Array.toList_inj.1 e));rw[decide_eq_false h,beq_eq_false_iff_ne];exact this
abbrev Hr(p:iC):Value:=.agg #[.string p.key,.string p.val]
theorem JZ(p q:iC)(W:World):(binOp .neq 84 (Hr p) (Hr q)).run Tryz.prog W=.ok (.bool (!decide (p=q))) W:=by obtain⟨p1,p2⟩:=p;obtain⟨q1,q2⟩:=q;have e1:=oG p1 q1;have e2:=oG p2 q2;unfold Hr;by_cases h1:p1=q1<;>by_cases h2:p2=q2<;>simp[go_sem,h1,h2,e1,e2]
theorem pair_cells{w:World}{A:Option Addr}{m:Nat}{l:List iC}(h:Src w 2 A m (bI l))(hm:0<m)(i:Nat)(p:iC)(hp:l[i]? =some p):
  ∃ad,A=some ad/\ad.block<w.heap.size/\w.cell? (ad.add (i*2))=some (.string p.key)/\w.cell? ⟨(ad.add (i*2)).block,(ad.add (i*2)).off+1,none⟩=some (.string p.val):=by
 obtain⟨ad,rfl,had,hcell⟩:=h.2 hm;have k0:(bI l)[i*2]? =some (.string p.key):=by unfold bI;rw[flat_get Az 2 (by decide) (fun _=>rfl),show i*2/2=i by omega,show i*2%2=0 by omega,hp];rfl
 have k1:(bI l)[i*2+1]? =some (.string p.val):=by unfold bI;rw[flat_get Az 2 (by decide) (fun _=>rfl),show(i*2+1)/2=i by omega,show(i*2+1)%2=1 by omega,hp];rfl
 refine⟨ad,rfl,had,hcell _ _ k0,?_⟩;rw[<-add_lit _ (by omega),add_add];exact hcell _ _ k1
theorem J3{α:Type}{a b:List α}{i:Nat}{p:α}(h:a.take i=b.take i)(ha:a[i]? =some p)(hb:b[i]? =some p):a.take (i+1)=b.take (i+1):=by rw[List.take_add_one,List.take_add_one,h,ha,hb]
theorem Ht(w:World)(A B:Option Addr)(c d:Nat)(a b:List iC)(ha:Src w 2 A a.length (bI a))(hb:Src w 2 B b.length (bI b))(hlen:a.length<=1000000):
  Calls Tryz.prog 35 #[.slice A a.length c,.slice B b.length d] w fun e w'=>e=.returned (.bool (decide (a=b)))/\Kept aj w w':=by
 have HA:=ah ha;clear ha;have HB:=ah hb;clear hb;by_cases hl:a.length=b.length;rotate_left
 ·have hd:decide (a=b)=false:=decide_eq_false fun e=>hl (by rw[e]);rw[hd];have hne:((a.length:Int) !=(b.length:Int))=true:=by simpa using fun e=>hl (by omega)
  clear hd HA HB;go_enter Tryz.func35,Tryz.ntmps35;go_wp2;go_ret;exact⟨rfl,Kept.refl _ _⟩
 rw[<-hl]at HB⊢;have HL:=ah hl;clear hl;obtain⟨n,hn⟩:∃n,a.length=n:=⟨_,rfl⟩;rw[hn]at HA HB hlen⊢;have HN:=ah hn;clear hn;obtain⟨r,hr⟩:∃r,decide (a=b)=r:=⟨_,rfl⟩;rw[hr];have HR:=ah hr;clear hr;go_enter Tryz.func35,Tryz.ntmps35;go_wp2_with fail;go_loopw [5] (fun v5 wr=>∃i m:Nat,i<=n/\v5=.int .i64 i/\a.take i=b.take i/\wr=w.drewN m) (fun v5 _=>n-(intOf v5).toNat)
 case atStart=>exact⟨0,0,Nat.zero_le _,rfl,rfl,rfl⟩
 case round=>
  obtain⟨i,m,hi,rfl,ht,rfl⟩:=hrel;have HT:=ah ht;clear ht;by_cases hil:i<n
  ·obtain⟨p,hp⟩:∃p,a[i]? =some p:=⟨_,List.getElem?_eq_getElem (by have:=HN.out;omega)⟩;obtain⟨q,hq⟩:∃q,b[i]? =some q:=⟨_,List.getElem?_eq_getElem (by have:=HN.out;have:=HL.out;omega)⟩;obtain⟨a1,rfl,hl1,d0,d1⟩:=pair_cells HA.out (by omega) i p hp;obtain⟨a2,rfl,hl2,f0,f1⟩:=pair_cells HB.out (by omega) i q hq;have heq:=JZ p q;have HP:=ah hp;clear hp;have HQ:=ah hq;clear hq;by_cases hpq:p=q
   ·subst hpq;rw[decide_eq_true rfl]at heq;have hnx:=J3 HT.out HP.out HQ.out;have jT:=ah hnx;clear hnx HP HQ;obtain⟨x0,x1⟩:=p;unfold Hr at heq;dsimp only at d0 d1 f0 f1 heq;go_wp2_with fail;go_quiet (fail);go_wp2;go_roundw
    case rel=>exact⟨i+1,_,by omega,by go_num,jT.out,rfl⟩
    case measure=>simp[intOf];omega
   ·have hrf:r=false:=by rw[<-HR.out];refine decide_eq_false fun e=>hpq ?_;have h1:=HP.out;rw[e,HQ.out]at h1;injection h1 with h1;exact h1.symm
    rw[decide_eq_false hpq]at heq;have jl:=ah hrf;clear hrf hpq HP HQ;obtain⟨x0,x1⟩:=p;obtain⟨y0,y1⟩:=q;unfold Hr at heq;dsimp only at d0 d1 f0 f1 heq;go_wp2_with fail;go_quiet (fail);go_wp2;go_ret;exact⟨by rw[jl.out];rfl,(Kept.quiet _ _ _).drewN _⟩
  ·obtain rfl:i=n:=by omega
   have hrt:r=true:=by rw[<-HR.out];refine decide_eq_true ?_;have h1:=HT.out;rwa[List.take_of_length_le (by rw[HN.out];exact Nat.le_refl _),List.take_of_length_le (by rw[<-HL.out,HN.out];exact Nat.le_refl _)]at h1
   have HRT:=ah hrt;clear hrt;go_wp2;go_ret;exact⟨by rw[HRT.out];rfl,Kept.quiet _ _ _⟩
end Ops
end Go.Proofs.YtgbigpdiacjbgaaGreat
namespace Go.Proofs.YtgbigpdiacjbgaaGreat
open Go.RowKit Go.WideShapes Go.ChangeShapes
section
variable{H:Type}{enc:TypeId×Value->H}{W:World}{v:Value}{d:DataW H}{ps:List MemPlace}{r:Reach}{b0:Nat}
theorem Qs(hv:∃A n c,v=.slice A n c)(h:DataW.Trod enc Tryz.prog W 0 (fun _=>true) true 23 v d ps):
  ∃(A:Option Addr) (c:Nat) (l:List Ops.dU),v=.slice A l.length c/\l.length<=c/\c<=maxLen/\Src W 3 A l.length (Ops.cells l)/\(∀o∈l,o.key.size<=maxLen/\o.val.size<=maxLen):=by
 have _:Inhabited Ops.dU:=⟨⟨⟨#[]⟩,⟨#[]⟩,false⟩⟩
 obtain⟨A,c,l,h1,h2,h3,h4,h5,_⟩:=IJ (α:=Ops.dU) Ops.cell (fun o=>o.key.size<=maxLen/\o.val.size<=maxLen) 3 Tryz.underlying23 (by kernel_rfl) (by decide) (fun _=>rfl)
  (fun fuel cs y hy=>by
   obtain⟨y0,y1,y2,n,_,hl,h0,h1,h2⟩:=Deep.trod_struct3 Tryz.underlying143 hy;have hC:Tryz.prog.cellsOf 143=3:=by kernel_rfl
   rw[hC]at hl;match cs,hl with
   |[c0,c1,c2],_=>
    have e9:Tryz.prog.cellsOf 9=1:=by kernel_rfl
    have e4:Tryz.prog.cellsOf 4=1:=by kernel_rfl
    obtain⟨x0,hx0,_,m0⟩:=DataW.trod_string Tryz.underlying9 h0;obtain⟨x1,hx1,_,m1⟩:=DataW.trod_string Tryz.underlying9 h1;obtain⟨x2,hx2,_⟩:=DataW.trod_bool Tryz.underlying4 h2;simp[e9]at hx0 hx1;simp[e9,e4]at hx2;subst hx0;subst hx1;subst hx2;exact⟨⟨x0,x1,x2⟩,rfl,m0,m1⟩) h hv
 exact⟨A,c,l,h1,h2,h3,h4,h5⟩
end
namespace fG
open Ops
structure iM where
 cl:Int
 req:Int
 A:Option Addr
 c:Nat
 ops:List dU
 ts:Int
def zn(e:iM):List Value:=[.int .i64 e.cl,.int .i64 e.req,.slice e.A e.ops.length e.c,.int .u64 e.ts]
def kM(l:List iM):List Value:=l.flatMap zn
abbrev Bf(e:iM):Value:=.agg #[.int .i64 e.cl,.int .i64 e.req,.slice e.A e.ops.length e.c,.int .u64 e.ts]
def lZ(e:iM):Batch:=⟨e.cl,e.req,e.ops⟩
def WJ(W:World)(e:iM):Prop:=Src W 3 e.A e.ops.length (cells e.ops)/\e.ops.length<=e.c/\e.c<=maxLen/\(∀o∈e.ops,o.key.size<=maxLen/\o.val.size<=maxLen)/\0<=e.ts/\e.ts<=18446744073709551615/\e.ops.length*40<=140737488351232
def YD(W:World)(l:List iM):Prop:=∀e∈l,WJ W e
theorem WJ.kept{W W':World}{e:iM}(h:WJ W e)(hk:Kept aj W W'):WJ W' e:=⟨h.1.kept hk (fun _ _ x=>x),h.2⟩
theorem YD.kept{W W':World}{l:List iM}(h:YD W l)(hk:Kept aj W W'):YD W' l:=fun e he=>(h e he).kept hk
theorem EV(l:List iM)(e:iM):kM (l++[e])=kM l++zn e:=by unfold kM;rw[List.flatMap_append];simp
theorem Dx{w:World}{A:Option Addr}{m:Nat}{l:List iM}(h:Src w 4 A m (kM l))(hm:0<m)(i:Nat)(e:iM)(he:l[i]? =some e):
  ∃ad,A=some ad/\ad.block<w.heap.size/\w.cell? (ad.add (i*4))=some (.int .i64 e.cl)/\w.cell? ⟨(ad.add (i*4)).block,(ad.add (i*4)).off+1,none⟩=some (.int .i64 e.req)/\
   w.cell? ⟨(ad.add (i*4)).block,(ad.add (i*4)).off+2,none⟩=some (.slice e.A e.ops.length e.c)/\w.cell? ⟨(ad.add (i*4)).block,(ad.add (i*4)).off+3,none⟩=some (.int .u64 e.ts):=by
 obtain⟨ad,rfl,had,hcell⟩:=h.2 hm;have hk:∀j,j<4->(kM l)[i*4+j]? =(zn e)[j]? :=by intro j hj;unfold kM;rw[flat_get zn 4 (by decide) (fun _=>rfl),show(i*4+j)/4=i by omega,show(i*4+j)%4=j by omega,he];rfl
 refine⟨ad,rfl,had,hcell _ _ (hk 0 (by decide)),?_,?_,?_⟩
 ·rw[<-add_lit _ (by omega),add_add];exact hcell _ _ (hk 1 (by decide))
 ·rw[<-add_lit _ (by omega),add_add];exact hcell _ _ (hk 2 (by decide))
 ·rw[<-add_lit _ (by omega),add_add];exact hcell _ _ (hk 3 (by decide))
end fG
section
variable{H:Type}{enc:TypeId×Value->H}{W:World}{v:Value}{d:DataW H}{ps:List MemPlace}{r:Reach}{b0:Nat}
end
end Go.Proofs.YtgbigpdiacjbgaaGreat
namespace Go.Proofs.YtgbigpdiacjbgaaGreat
namespace bg
abbrev Mem:=Int×Int
def rZ(m:Mem)(a:List Mem):Int:=
 if m.1<0\/4<=m.1 then 1 else if m.2<1\/1073741824<m.2 then 5 else if a.any (fun x=>decide (x.1=m.1))then 18 else 0
def lX:List Mem->List Mem->Int
 |_,[]=>0
 |a,m::r=>if rZ m a=0 then lX (a++[m]) r else rZ m a
def chk(ep:Int)(l:List Mem):Int:=
 if ep<1\/1073741824<ep then 5 else if l.length=0 then 7 else if 4<l.length then 6 else lX [] l
def xR(l:List Mem)(m:Mem):List Mem:=if l.length<4/\chk 1 [m]=0/\l.any (fun x=>decide (x.1=m.1))=false then l++[m]else l
def vP(l:List Mem)(j:List Mem):List Mem:=j.foldl xR l
def isFirst(g t:List Int)(m:Mem):Bool:= !g.contains m.1&&t.contains m.1
def F6(g t:List Int)(m:Mem):Bool:= !g.contains m.1&& !t.contains m.1
def firsts(c:List Mem)(t g:List Int):List Mem:=c.filter (isFirst g t)
def rests(c:List Mem)(t g:List Int):List Mem:=c.filter (F6 g t)
def allOf(c:List Mem)(t g:List Int)(j:List Mem):List Mem:=vP (firsts c t g++rests c t g) j
def aY:Int:=18446744073709551615
def NI(f last:Int):Int:=if last=aY then aY else max f (last+1)
def ids(l:List Mem):List Int:=(l.map (·.1)).mergeSort fun a b=>decide (a<=b)
structure Next where
 e:Int
 ep:Int
 l:List Mem
 fl:Int
 t:List Int
def Qu(ep:Int)(c:List Mem)(fl:Int)(t g:List Int)(j:List Mem)(last:Int):Next:=
 if chk ep c≠0 then ⟨chk ep c,0,[],0,[]⟩
 else if firsts c t g=[]then ⟨7,0,[],0,[]⟩
 else if allOf c t g j=c then ⟨20,0,[],0,[]⟩
 else if 1073741824<=ep then ⟨5,0,[],0,[]⟩
 else⟨0,ep+1,allOf c t g j,NI fl last,ids (firsts c t g)⟩
structure Good(l:List Mem):Prop where
 id:∀m∈l,0<=m.1/\m.1<4
 tK:∀m∈l,1<=m.2/\m.2<=1073741824
 nd:(l.map (·.1)).Nodup
theorem Qv{m:Mem}{a:List Mem}(h:rZ m a=0):(0<=m.1/\m.1<4)/\(1<=m.2/\m.2<=1073741824)/\∀x∈a,x.1≠m.1:=by
 unfold rZ at h;split at h
 ·cases h
 ·split at h
  ·cases h
  ·split at h
   ·cases h
   ·rename_i h1 h2 h3;refine⟨by omega,by omega,fun x hx e=>h3 ?_⟩;simp only[List.any_eq_true,decide_eq_true_eq];exact⟨x,hx,e⟩
theorem XB{m:Mem}{a:List Mem}(h1:0<=m.1/\m.1<4)(h2:1<=m.2/\m.2<=1073741824)(h3:∀x∈a,x.1≠m.1):rZ m a=0:=by unfold rZ;rw[if_neg (by omega),if_neg (by omega),if_neg];simp only[List.any_eq_true,decide_eq_true_eq,not_exists,not_and];exact h3
theorem J4{r:List Mem}:∀{a:List Mem},Good a->lX a r=0->Good (a++r):=by
 induction r with
 |nil=>intro a h _;simpa using h
 |cons m r ih=>
  intro a h hc;unfold lX at hc;split at hc
  ·rename_i h0;obtain⟨h1,h2,h3⟩:=Qv h0;have hg:Good (a++[m]):=by
    refine⟨?_,?_,?_⟩
    ·intro x hx;rcases List.mem_append.1 hx with hx|hx
     ·exact h.id x hx
     ·obtain rfl:=List.mem_singleton.1 hx;exact h1
    ·intro x hx;rcases List.mem_append.1 hx with hx|hx
     ·exact h.tK x hx
     ·obtain rfl:=List.mem_singleton.1 hx;exact h2
    ·rw[List.map_append,List.nodup_append];refine⟨h.nd,by simp,?_⟩;intro x hx y hy e;obtain⟨z,hz,rfl⟩:=List.mem_map.1 hx;simp at hy;exact h3 z hz (e.trans hy)
   have:=ih hg hc;simpa using this
  ·rename_i h0;exact absurd hc h0
theorem Ou{r:List Mem}:∀{a:List Mem},Good (a++r)->lX a r=0:=by
 induction r with
 |nil=>intro a _;rfl
 |cons m r ih=>
  intro a h;unfold lX;have h0:rZ m a=0:=by refine XB (h.id m (by simp)) (h.tK m (by simp)) fun x hx e=> ?_;have:=h.nd;rw[List.map_append,List.nodup_append]at this;exact this.2.2 x.1 (List.mem_map.2 ⟨x,hx,rfl⟩) m.1 (by simp) e
  rw[if_pos h0];exact ih (by simpa using h)
theorem Uz:Good []:=⟨by simp,by simp,by simp⟩
theorem rG{ep:Int}{l:List Mem}(h:chk ep l=0):(1<=ep/\ep<=1073741824)/\l≠[]/\l.length<=4/\Good l:=by
 unfold chk at h;split at h
 ·cases h
 ·split at h
  ·cases h
  ·split at h
   ·cases h
   ·rename_i h1 h2 h3;refine⟨by omega,?_,by omega,by simpa using J4 Uz h⟩;rintro rfl;exact h2 rfl
theorem Qw{ep:Int}{l:List Mem}(h1:1<=ep/\ep<=1073741824)(h2:l≠[])(h3:l.length<=4)(h4:Good l):chk ep l=0:=by unfold chk;rw[if_neg (by omega),if_neg (by intro e;exact h2 (List.eq_nil_of_length_eq_zero e)),if_neg (by omega)];exact Ou (by simpa using h4)
theorem UA{m:Mem}:chk 1 [m]=0↔(0<=m.1/\m.1<4)/\(1<=m.2/\m.2<=1073741824):=by
 constructor
 ·intro h;have hg:=(rG h).2.2.2;exact⟨hg.id m (by simp),hg.tK m (by simp)⟩
 ·intro h;exact Qw (by omega) (by simp) (by simp) ⟨by intro x hx;obtain rfl:=List.mem_singleton.1 hx;exact h.1,by intro x hx;obtain rfl:=List.mem_singleton.1 hx;exact h.2,by simp⟩
theorem EW{l:List Mem}(h:Good l)(p:Mem->Bool):Good (l.filter p):=
 ⟨fun m hm=>h.id m (List.mem_filter.1 hm).1,fun m hm=>h.tK m (List.mem_filter.1 hm).1,h.nd.sublist (List.filter_sublist.map _)⟩
theorem Qx{l:List Mem}(h:(l.map (·.1)).Nodup){x y:Mem}(hx:x∈l)(hy:y∈l)(e:x.1=y.1):x=y:=by
 induction l with
 |nil=>cases hx
 |cons a l ih=>
  rw[List.map_cons,List.nodup_cons]at h;rcases List.mem_cons.1 hx with rfl|hx'
  ·rcases List.mem_cons.1 hy with rfl|hy'
   ·rfl
   ·exact absurd (List.mem_map.2 ⟨y,hy',e.symm⟩) h.1
  ·rcases List.mem_cons.1 hy with rfl|hy'
   ·exact absurd (List.mem_map.2 ⟨x,hx',e⟩) h.1
   ·exact ih h.2 hx' hy'
theorem UB{l:List Mem}(h:Good l)(g t:List Int):Good (firsts l t g++rests l t g):=by
 refine⟨?_,?_,?_⟩
 ·intro m hm;rcases List.mem_append.1 hm with hm|hm
  ·exact h.id m (List.mem_filter.1 hm).1
  ·exact h.id m (List.mem_filter.1 hm).1
 ·intro m hm;rcases List.mem_append.1 hm with hm|hm
  ·exact h.tK m (List.mem_filter.1 hm).1
  ·exact h.tK m (List.mem_filter.1 hm).1
 ·rw[List.map_append,List.nodup_append];refine⟨(EW h _).nd,(EW h _).nd,?_⟩;intro x hx y hy e;obtain⟨a,ha,rfl⟩:=List.mem_map.1 hx;obtain⟨b,hb,rfl⟩:=List.mem_map.1 hy;have ha':=List.mem_filter.1 ha;have hb':=List.mem_filter.1 hb;obtain rfl:=Qx h.nd ha'.1 hb'.1 e;have h1:=ha'.2;have h2:=hb'.2;unfold isFirst at h1;unfold F6 at h2;simp at h1 h2;exact h2.2 h1.2
theorem XC(l:List Mem)(g t:List Int):(firsts l t g++rests l t g).length<=l.length:=by
 unfold firsts rests;rw[List.length_append];induction l with
 |nil=>simp
 |cons m l ih=>
  rw[List.filter_cons,List.filter_cons];have:¬(isFirst g t m=true/\F6 g t m=true):=by unfold isFirst F6;cases t.contains m.1<;>simp
  split<;>split<;>simp_all<;>omega
theorem J5{l:List Mem}(h:Good l)(hl:l.length<=4)(m:Mem):Good (xR l m)/\(xR l m).length<=4:=by
 unfold xR;split
 ·rename_i hc;obtain⟨h1,h2,h3⟩:=hc;obtain⟨h4,h5⟩:=UA.1 h2;refine⟨⟨?_,?_,?_⟩,by simp;omega⟩
  ·intro x hx;rcases List.mem_append.1 hx with hx|hx
   ·exact h.id x hx
   ·obtain rfl:=List.mem_singleton.1 hx;exact h4
  ·intro x hx;rcases List.mem_append.1 hx with hx|hx
   ·exact h.tK x hx
   ·obtain rfl:=List.mem_singleton.1 hx;exact h5
  ·rw[List.map_append,List.nodup_append];refine⟨h.nd,by simp,?_⟩;intro x hx y hy e;obtain⟨z,hz,rfl⟩:=List.mem_map.1 hx;simp at hy;have hn:¬(l.any fun x=>decide (x.1=m.1))=true:=by rw[h3];simp
   exact hn (List.any_eq_true.2 ⟨z,hz,by simp[e.trans hy]⟩)
 ·exact⟨h,hl⟩
theorem J6(j:List Mem):∀{l:List Mem},Good l->l.length<=4->Good (vP l j)/\(vP l j).length<=4:=by
 induction j with
 |nil=>intro l h hl;exact⟨h,hl⟩
 |cons m j ih=>
  intro l h hl;obtain⟨h1,h2⟩:=J5 h hl m;exact ih h1 h2
theorem Hu(j:List Mem):∀(l:List Mem),∃r,vP l j=l++r/\∀m∈r,m∈j:=by
 induction j with
 |nil=>intro l;exact⟨[],by simp[vP],by simp⟩
 |cons m j ih=>
  intro l;have e:vP l (m::j)=vP (xR l m) j:=rfl;obtain⟨r,hr,hm⟩:=ih (xR l m);rw[e,hr];unfold xR;split
  ·exact⟨m::r,by simp,by intro x hx;rcases List.mem_cons.1 hx with rfl|hx;exact List.mem_cons_self;exact List.mem_cons_of_mem _ (hm x hx)⟩
  ·exact⟨r,rfl,fun x hx=>List.mem_cons_of_mem _ (hm x hx)⟩
theorem XD{l:List Mem}{x:Int}:x∈ids l↔∃m∈l,m.1=x:=by unfold ids;rw[List.mem_mergeSort,List.mem_map]
structure Is(ep:Int)(c:List Mem)(fl:Int)(t g:List Int)(j:List Mem)(last:Int)(d:Next):Prop where
 YE:chk ep c=0
 epv:d.ep=ep+1
 abe:ep<1073741824
 lv:d.l=allOf c t g j
 flv:d.fl=NI fl last
 tv:d.t=ids (firsts c t g)
 ne:firsts c t g≠[]
section
variable{ep:Int}{c:List Mem}{fl:Int}{t g:List Int}{j:List Mem}{last:Int}{d:Next}
theorem Is.form(h:Is ep c fl t g j last d):∃r,d.l=firsts c t g++(rests c t g++r)/\(∀m∈r,m∈j)/\Good d.l/\d.l.length<=4:=by obtain⟨h1,h2,h3,h4⟩:=rG h.YE;obtain⟨r,hr,hm⟩:=Hu j (firsts c t g++rests c t g);have hg:=J6 j (UB h4 g t) (Nat.le_trans (XC c g t) h3);refine⟨r,by rw[h.lv];unfold allOf;rw[hr,List.append_assoc],hm,?_⟩;rw[h.lv];exact hg
theorem Is.chk(h:Is ep c fl t g j last d):bg.chk d.ep d.l=0:=by obtain⟨h1,h2,h3,h4⟩:=rG h.YE;obtain⟨r,hr,hm,hg,hl⟩:=h.form;refine Qw (by have:=h.abe;rw[h.epv];omega) ?_ hl hg;rw[hr];intro e;exact h.ne (List.append_eq_nil_iff.1 e).1
theorem Is.again(h:Is ep c fl t g j last d):Qu d.ep d.l d.fl d.t [] [] last=⟨20,0,[],0,[]⟩:=by
 obtain⟨r,hr,_,hg,_⟩:=h.form;have hfirst:firsts d.l d.t []=firsts c t g:=by
  unfold firsts;have e1:∀m∈d.l,isFirst [] d.t m=true↔m∈firsts c t g:=by
   intro m hm;unfold isFirst;simp only[List.contains_nil,Bool.not_false,Bool.true_and,List.contains_iff_mem];rw[h.tv,XD];constructor
   ·rintro⟨x,hx,e⟩;obtain rfl:x=m:=Qx hg.nd (by rw[hr];exact List.mem_append_left _ hx) hm e;exact hx
   ·intro hx;exact⟨m,hx,rfl⟩
  have hnd:d.l.Nodup:=by have:=hg.nd;rw[List.nodup_iff_pairwise_ne,List.pairwise_map]at this;rw[List.nodup_iff_pairwise_ne];exact this.imp fun h e=>h (by rw[e])
  generalize isFirst [] d.t=p at e1;rw[hr]at e1 hnd⊢;rw[List.filter_append];have e2:(firsts c t g).filter p=firsts c t g:=List.filter_eq_self.2 fun m hm=>(e1 m (List.mem_append_left _ hm)).2 hm;have e3:(rests c t g++r).filter p=[]:=by rw[List.filter_eq_nil_iff];intro m hm hp;have:=(e1 m (List.mem_append_right _ hm)).1 hp;rw[List.nodup_append]at hnd;exact hnd.2.2 m this m hm rfl
  show List.filter p (firsts c t g)++_=_;rw[e2,e3,List.append_nil];rfl
 have hrest:rests d.l d.t []=rests c t g++r:=by
  have e4:rests d.l d.t []=d.l.filter fun m=> !isFirst [] d.t m:=by unfold rests;congr 1
  have e5:firsts d.l d.t []=d.l.filter (isFirst [] d.t):=rfl;rw[hfirst]at e5;have e1:∀m∈d.l,isFirst [] d.t m=true↔m∈firsts c t g:=by intro m hm;rw[e5,List.mem_filter];exact⟨fun h=>⟨hm,h⟩,fun h=>h.2⟩
  have hnd:d.l.Nodup:=by have:=hg.nd;rw[List.nodup_iff_pairwise_ne,List.pairwise_map]at this;rw[List.nodup_iff_pairwise_ne];exact this.imp fun h e=>h (by rw[e])
  rw[e4];generalize isFirst [] d.t=p at e1;rw[hr]at e1 hnd⊢;rw[List.filter_append];have e2:(firsts c t g).filter (fun m=> !p m)=[]:=by rw[List.filter_eq_nil_iff];intro m hm hp;rw[(e1 m (List.mem_append_left _ hm)).2 hm]at hp;cases hp
  have e3:(rests c t g++r).filter (fun m=> !p m)=rests c t g++r:=List.filter_eq_self.2 fun m hm=>by rw[Bool.not_eq_true',Bool.eq_false_iff];intro hp;have:=(e1 m (List.mem_append_right _ hm)).1 hp;rw[List.nodup_append]at hnd;exact hnd.2.2 m this m hm rfl
  rw[e2,e3,List.nil_append]
 unfold Qu;rw[if_neg (by simp[h.chk]),if_neg (by rw[hfirst];exact h.ne),if_pos];unfold allOf vP;rw[hfirst,hrest,hr];rfl
end
end bg
end Go.Proofs.YtgbigpdiacjbgaaGreat
namespace Go.Proofs.YtgbigpdiacjbgaaGreat
open Go.RowKit
namespace bg
abbrev JJ(m:Mem):List Value:=[.int .i64 m.1,.int .i64 m.2]
abbrev dL(l:List Mem):List Value:=l.flatMap JJ
abbrev zK(m:Mem):Value:=.agg #[.int .i64 m.1,.int .i64 m.2]
abbrev ints(l:List Int):List Value:=l.map (Value.int .i64)
theorem EX(a:List Mem)(k:Nat):(dL a).take (k*2)=dL (a.take k):=by
 induction a generalizing k with
 |nil=>simp[dL]
 |cons x a ih=>
  cases k with
  |zero=>simp[dL]
  |succ k=>
   have e:(k+1)*2=k*2+1+1:=by omega
   show(Value.int .i64 x.1::Value.int .i64 x.2::dL a).take ((k+1)*2)=Value.int .i64 x.1::Value.int .i64 x.2::dL (a.take k);rw[e];simp[ih]
theorem qX{w:World}{A:Option Addr}{m:Nat}{l:List Mem}(h:Src w 2 A m (dL l))(hm:0<m)(i:Nat)(p:Mem)(hp:l[i]? =some p):
  ∃ad,A=some ad/\ad.block<w.heap.size/\w.cell? (ad.add (i*2))=some (.int .i64 p.1)/\w.cell? ⟨(ad.add (i*2)).block,(ad.add (i*2)).off+1,none⟩=some (.int .i64 p.2):=by
 obtain⟨ad,rfl,had,hcell⟩:=h.2 hm;have k0:(dL l)[i*2]? =some (.int .i64 p.1):=by rw[flat_get JJ 2 (by decide) (fun _=>rfl),show i*2/2=i by omega,show i*2%2=0 by omega,hp];rfl
 have k1:(dL l)[i*2+1]? =some (.int .i64 p.2):=by rw[flat_get JJ 2 (by decide) (fun _=>rfl),show(i*2+1)/2=i by omega,show(i*2+1)%2=1 by omega,hp];rfl
 refine⟨ad,rfl,had,hcell _ _ k0,?_⟩;rw[<-add_lit _ (by omega),add_add];exact hcell _ _ k1
theorem drop_cons{α:Type}{l:List α}{i:Nat}{a:α}(h:l[i]? =some a):l.drop i=a::l.drop (i+1):=by obtain⟨hl,rfl⟩:=lD0.1 h;exact List.drop_eq_getElem_cons hl
theorem take_snoc{α:Type}{l:List α}{i:Nat}{a:α}(h:l[i]? =some a):l.take (i+1)=l.take i++[a]:=by rw[List.take_add_one,h];rfl
theorem NJ:Elem Tryz.prog 55 175 2 16:=
 by
 obtain⟨i0,hi,hz0,hz1,hz2⟩:=info_parts (show(Tryz.prog.info? 175).map (fun i=>(i.zero,i.size,i.bytes))=some (some (.agg #[.int .i64 0,.int .i64 0]),2,16) by kernel_rfl)
 exact⟨Tryz.underlying55,⟨i0,_,hi,hz0,hz1,hz2,rfl⟩,by decide⟩
end bg
namespace bg
abbrev zL(ep:Int)(A:Option Addr)(n c:Nat)(fl:Int):Value:=.agg #[.int .i64 ep,.slice A n c,.int .u64 fl]
def Cf(l:List Mem)(x:Int):Bool:=l.any fun m=>decide (m.1=x)

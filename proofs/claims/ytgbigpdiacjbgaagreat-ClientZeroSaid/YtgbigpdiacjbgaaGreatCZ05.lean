/- Part 6. -/
import Derived.Test.YtgbigpdiacjbgaaGreatCZ04
set_option linter.unusedSimpArgs false
set_option linter.unusedVariables false
set_option maxHeartbeats 32000000
set_option maxRecDepth 100000
namespace Go.Proofs.YtgbigpdiacjbgaaGreat
open Go.RowKit Go.WideShapes Go.ChangeShapes
namespace dG
open Ops
structure dA where
 cl:Int
 req:Int
 A:Option Addr
 c:Nat
 ops:List aS
 ts:Int
def tC(e:dA):List Value:=[.int .i64 e.cl,.int .i64 e.req,.slice e.A e.ops.length e.c,.int .u64 e.ts]
def jP(l:List dA):List Value:=l.flatMap tC
abbrev D9(e:dA):Value:=.agg #[.int .i64 e.cl,.int .i64 e.req,.slice e.A e.ops.length e.c,.int .u64 e.ts]
def dK(e:dA):Batch:=⟨e.cl,e.req,e.ops⟩
def zl(W:World)(e:dA):Prop:=Src W 3 e.A e.ops.length (cells e.ops)/\e.ops.length<=e.c/\e.c<=maxLen/\(∀o∈e.ops,o.key.size<=maxLen/\o.val.size<=maxLen)/\0<=e.ts/\e.ts<=18446744073709551615/\e.ops.length*40<=140737488351232
def AL(W:World)(l:List dA):Prop:=∀e∈l,zl W e
theorem zl.kept{W W':World}{e:dA}(h:zl W e)(hk:Kept aj W W'):zl W' e:=⟨h.1.kept hk (fun _ _ x=>x),h.2⟩
theorem AL.kept{W W':World}{l:List dA}(h:AL W l)(hk:Kept aj W W'):AL W' l:=fun e he=>(h e he).kept hk
theorem pF{w:World}{A:Option Addr}{m:Nat}{l:List dA}(h:Src w 4 A m (jP l))(hm:0<m)(i:Nat)(e:dA)(he:l[i]? =some e):
  ∃ad,A=some ad/\ad.block<w.heap.size/\w.cell? (ad.add (i*4))=some (.int .i64 e.cl)/\w.cell? ⟨(ad.add (i*4)).block,(ad.add (i*4)).off+1,none⟩=some (.int .i64 e.req)/\
   w.cell? ⟨(ad.add (i*4)).block,(ad.add (i*4)).off+2,none⟩=some (.slice e.A e.ops.length e.c)/\w.cell? ⟨(ad.add (i*4)).block,(ad.add (i*4)).off+3,none⟩=some (.int .u64 e.ts):=by
 obtain⟨ad,rfl,had,hcell⟩:=h.2 hm;have hk:∀j,j<4->(jP l)[i*4+j]? =(tC e)[j]? :=by intro j hj;unfold jP;rw[flat_get tC 4 (by decide) (fun _=>rfl),show(i*4+j)/4=i by omega,show(i*4+j)%4=j by omega,he];rfl
 refine⟨ad,rfl,had,hcell _ _ (hk 0 (by decide)),?_,?_,?_⟩
 ·rw[<-add_lit _ (by omega),add_add];exact hcell _ _ (hk 1 (by decide))
 ·rw[<-add_lit _ (by omega),add_add];exact hcell _ _ (hk 2 (by decide))
 ·rw[<-add_lit _ (by omega),add_add];exact hcell _ _ (hk 3 (by decide))
end dG
section
variable{H:Type}{enc:TypeId×Value->H}{W:World}{v:Value}{d:DataW H}{ps:List MemPlace}{r:Reach}{b0:Nat}
end
end Go.Proofs.YtgbigpdiacjbgaaGreat
namespace Go.Proofs.YtgbigpdiacjbgaaGreat
namespace aJ
abbrev Mem:=Int×Int
def dX(m:Mem)(a:List Mem):Int:=
 if m.1<0\/4<=m.1 then 1 else if m.2<1\/1073741824<m.2 then 5 else if a.any (fun x=>decide (x.1=m.1))then 18 else 0
def cZ:List Mem->List Mem->Int
 |_,[]=>0
 |a,m::r=>if dX m a=0 then cZ (a++[m]) r else dX m a
def chk(ep:Int)(l:List Mem):Int:=
 if ep<1\/1073741824<ep then 5 else if l.length=0 then 7 else if 4<l.length then 6 else cZ [] l
def iy(l:List Mem)(m:Mem):List Mem:=if l.length<4/\chk 1 [m]=0/\l.any (fun x=>decide (x.1=m.1))=false then l++[m]else l
def fP(l:List Mem)(j:List Mem):List Mem:=j.foldl iy l
def isFirst(g t:List Int)(m:Mem):Bool:= !g.contains m.1&&t.contains m.1
def nM(g t:List Int)(m:Mem):Bool:= !g.contains m.1&& !t.contains m.1
def firsts(c:List Mem)(t g:List Int):List Mem:=c.filter (isFirst g t)
def rests(c:List Mem)(t g:List Int):List Mem:=c.filter (nM g t)
def allOf(c:List Mem)(t g:List Int)(j:List Mem):List Mem:=fP (firsts c t g++rests c t g) j
def aO:Int:=18446744073709551615
def rY(f last:Int):Int:=if last=aO then aO else max f (last+1)
def ids(l:List Mem):List Int:=(l.map (·.1)).mergeSort fun a b=>decide (a<=b)
structure Next where
 e:Int
 ep:Int
 l:List Mem
 fl:Int
 t:List Int
def uY(ep:Int)(c:List Mem)(fl:Int)(t g:List Int)(j:List Mem)(last:Int):Next:=
 if chk ep c≠0 then ⟨chk ep c,0,[],0,[]⟩
 else if firsts c t g=[]then ⟨7,0,[],0,[]⟩
 else if allOf c t g j=c then ⟨20,0,[],0,[]⟩
 else if 1073741824<=ep then ⟨5,0,[],0,[]⟩
 else⟨0,ep+1,allOf c t g j,rY fl last,ids (firsts c t g)⟩
structure Good(l:List Mem):Prop where
 id:∀m∈l,0<=m.1/\m.1<4
 jQ:∀m∈l,1<=m.2/\m.2<=1073741824
 nd:(l.map (·.1)).Nodup
theorem uZ{m:Mem}{a:List Mem}(h:dX m a=0):(0<=m.1/\m.1<4)/\(1<=m.2/\m.2<=1073741824)/\∀x∈a,x.1≠m.1:=by
 unfold dX at h;split at h
 ·cases h
 ·split at h
  ·cases h
  ·split at h
   ·cases h
   ·rename_i h1 h2 h3;refine⟨by omega,by omega,fun x hx e=>h3 ?_⟩;simp only[List.any_eq_true,decide_eq_true_eq];exact⟨x,hx,e⟩
theorem zT{m:Mem}{a:List Mem}(h1:0<=m.1/\m.1<4)(h2:1<=m.2/\m.2<=1073741824)(h3:∀x∈a,x.1≠m.1):dX m a=0:=by unfold dX;rw[if_neg (by omega),if_neg (by omega),if_neg];simp only[List.any_eq_true,decide_eq_true_eq,not_exists,not_and];exact h3
theorem qC{r:List Mem}:∀{a:List Mem},Good a->cZ a r=0->Good (a++r):=by
 induction r with
 |nil=>intro a h _;simpa using h
 |cons m r ih=>
  intro a h hc;unfold cZ at hc;split at hc
  ·rename_i h0;obtain⟨h1,h2,h3⟩:=uZ h0;have hg:Good (a++[m]):=by
    refine⟨?_,?_,?_⟩
    ·intro x hx;rcases List.mem_append.1 hx with hx|hx
     ·exact h.id x hx
     ·obtain rfl:=List.mem_singleton.1 hx;exact h1
    ·intro x hx;rcases List.mem_append.1 hx with hx|hx
     ·exact h.jQ x hx
     ·obtain rfl:=List.mem_singleton.1 hx;exact h2
    ·rw[List.map_append,List.nodup_append];refine⟨h.nd,by simp,?_⟩;intro x hx y hy e;obtain⟨z,hz,rfl⟩:=List.mem_map.1 hx;simp at hy;exact h3 z hz (e.trans hy)
   have:=ih hg hc;simpa using this
  ·rename_i h0;exact absurd hc h0
theorem tH{r:List Mem}:∀{a:List Mem},Good (a++r)->cZ a r=0:=by
 induction r with
 |nil=>intro a _;rfl
 |cons m r ih=>
  intro a h;unfold cZ;have h0:dX m a=0:=by refine zT (h.id m (by simp)) (h.jQ m (by simp)) fun x hx e=> ?_;have:=h.nd;rw[List.map_append,List.nodup_append]at this;exact this.2.2 x.1 (List.mem_map.2 ⟨x,hx,rfl⟩) m.1 (by simp) e
  rw[if_pos h0];exact ih (by simpa using h)
theorem xG:Good []:=⟨by simp,by simp,by simp⟩
theorem jf{ep:Int}{l:List Mem}(h:chk ep l=0):(1<=ep/\ep<=1073741824)/\l≠[]/\l.length<=4/\Good l:=by
 unfold chk at h;split at h
 ·cases h
 ·split at h
  ·cases h
  ·split at h
   ·cases h
   ·rename_i h1 h2 h3;refine⟨by omega,?_,by omega,by simpa using qC xG h⟩;rintro rfl;exact h2 rfl
theorem vg{ep:Int}{l:List Mem}(h1:1<=ep/\ep<=1073741824)(h2:l≠[])(h3:l.length<=4)(h4:Good l):chk ep l=0:=by unfold chk;rw[if_neg (by omega),if_neg (by intro e;exact h2 (List.eq_nil_of_length_eq_zero e)),if_neg (by omega)];exact tH (by simpa using h4)
theorem xH{m:Mem}:chk 1 [m]=0↔(0<=m.1/\m.1<4)/\(1<=m.2/\m.2<=1073741824):=by
 constructor
 ·intro h;have hg:=(jf h).2.2.2;exact⟨hg.id m (by simp),hg.jQ m (by simp)⟩
 ·intro h;exact vg (by omega) (by simp) (by simp) ⟨by intro x hx;obtain rfl:=List.mem_singleton.1 hx;exact h.1,by intro x hx;obtain rfl:=List.mem_singleton.1 hx;exact h.2,by simp⟩
theorem mG{l:List Mem}(h:Good l)(p:Mem->Bool):Good (l.filter p):=
 ⟨fun m hm=>h.id m (List.mem_filter.1 hm).1,fun m hm=>h.jQ m (List.mem_filter.1 hm).1,h.nd.sublist (List.filter_sublist.map _)⟩
theorem vw{l:List Mem}(h:(l.map (·.1)).Nodup){x y:Mem}(hx:x∈l)(hy:y∈l)(e:x.1=y.1):x=y:=by
 induction l with
 |nil=>cases hx
 |cons a l ih=>
  rw[List.map_cons,List.nodup_cons]at h;rcases List.mem_cons.1 hx with rfl|hx'
  ·rcases List.mem_cons.1 hy with rfl|hy'
   ·rfl
   ·exact absurd (List.mem_map.2 ⟨y,hy',e.symm⟩) h.1
  ·rcases List.mem_cons.1 hy with rfl|hy'
   ·exact absurd (List.mem_map.2 ⟨x,hx',e⟩) h.1
   ·exact ih h.2 hx' hy'
theorem xI{l:List Mem}(h:Good l)(g t:List Int):Good (firsts l t g++rests l t g):=by
 refine⟨?_,?_,?_⟩
 ·intro m hm;rcases List.mem_append.1 hm with hm|hm
  ·exact h.id m (List.mem_filter.1 hm).1
  ·exact h.id m (List.mem_filter.1 hm).1
 ·intro m hm;rcases List.mem_append.1 hm with hm|hm
  ·exact h.jQ m (List.mem_filter.1 hm).1
  ·exact h.jQ m (List.mem_filter.1 hm).1
 ·rw[List.map_append,List.nodup_append];refine⟨(mG h _).nd,(mG h _).nd,?_⟩;intro x hx y hy e;obtain⟨a,ha,rfl⟩:=List.mem_map.1 hx;obtain⟨b,hb,rfl⟩:=List.mem_map.1 hy;have ha':=List.mem_filter.1 ha;have hb':=List.mem_filter.1 hb;obtain rfl:=vw h.nd ha'.1 hb'.1 e;have h1:=ha'.2;have h2:=hb'.2;unfold isFirst at h1;unfold nM at h2;simp at h1 h2;exact h2.2 h1.2
theorem zU(l:List Mem)(g t:List Int):(firsts l t g++rests l t g).length<=l.length:=by
 unfold firsts rests;rw[List.length_append];induction l with
 |nil=>simp
 |cons m l ih=>
  rw[List.filter_cons,List.filter_cons];have:¬(isFirst g t m=true/\nM g t m=true):=by unfold isFirst nM;cases t.contains m.1<;>simp
  split<;>split<;>simp_all<;>omega
theorem qE{l:List Mem}(h:Good l)(hl:l.length<=4)(m:Mem):Good (iy l m)/\(iy l m).length<=4:=by
 unfold iy;split
 ·rename_i hc;obtain⟨h1,h2,h3⟩:=hc;obtain⟨h4,h5⟩:=xH.1 h2;refine⟨⟨?_,?_,?_⟩,by simp;omega⟩
  ·intro x hx;rcases List.mem_append.1 hx with hx|hx
   ·exact h.id x hx
   ·obtain rfl:=List.mem_singleton.1 hx;exact h4
  ·intro x hx;rcases List.mem_append.1 hx with hx|hx
   ·exact h.jQ x hx
   ·obtain rfl:=List.mem_singleton.1 hx;exact h5
  ·rw[List.map_append,List.nodup_append];refine⟨h.nd,by simp,?_⟩;intro x hx y hy e;obtain⟨z,hz,rfl⟩:=List.mem_map.1 hx;simp at hy;have hn:¬(l.any fun x=>decide (x.1=m.1))=true:=by rw[h3];simp
   exact hn (List.any_eq_true.2 ⟨z,hz,by simp[e.trans hy]⟩)
 ·exact⟨h,hl⟩
theorem qF(j:List Mem):∀{l:List Mem},Good l->l.length<=4->Good (fP l j)/\(fP l j).length<=4:=by
 induction j with
 |nil=>intro l h hl;exact⟨h,hl⟩
 |cons m j ih=>
  intro l h hl;obtain⟨h1,h2⟩:=qE h hl m;exact ih h1 h2
theorem oV(j:List Mem):∀(l:List Mem),∃r,fP l j=l++r/\∀m∈r,m∈j:=by
 induction j with
 |nil=>intro l;exact⟨[],by simp[fP],by simp⟩
 |cons m j ih=>
  intro l;have e:fP l (m::j)=fP (iy l m) j:=rfl;obtain⟨r,hr,hm⟩:=ih (iy l m);rw[e,hr];unfold iy;split
  ·exact⟨m::r,by simp,by intro x hx;rcases List.mem_cons.1 hx with rfl|hx;exact List.mem_cons_self;exact List.mem_cons_of_mem _ (hm x hx)⟩
  ·exact⟨r,rfl,fun x hx=>List.mem_cons_of_mem _ (hm x hx)⟩
theorem zV{l:List Mem}{x:Int}:x∈ids l↔∃m∈l,m.1=x:=by unfold ids;rw[List.mem_mergeSort,List.mem_map]
structure Is(ep:Int)(c:List Mem)(fl:Int)(t g:List Int)(j:List Mem)(last:Int)(d:Next):Prop where
 AO:chk ep c=0
 epv:d.ep=ep+1
 Ea:ep<1073741824
 lv:d.l=allOf c t g j
 Gu:d.fl=rY fl last
 tv:d.t=ids (firsts c t g)
 ne:firsts c t g≠[]
section
variable{ep:Int}{c:List Mem}{fl:Int}{t g:List Int}{j:List Mem}{last:Int}{d:Next}
theorem Is.form(h:Is ep c fl t g j last d):∃r,d.l=firsts c t g++(rests c t g++r)/\(∀m∈r,m∈j)/\Good d.l/\d.l.length<=4:=by obtain⟨h1,h2,h3,h4⟩:=jf h.AO;obtain⟨r,hr,hm⟩:=oV j (firsts c t g++rests c t g);have hg:=qF j (xI h4 g t) (Nat.le_trans (zU c g t) h3);refine⟨r,by rw[h.lv];unfold allOf;rw[hr,List.append_assoc],hm,?_⟩;rw[h.lv];exact hg
theorem Is.chk(h:Is ep c fl t g j last d):aJ.chk d.ep d.l=0:=by obtain⟨h1,h2,h3,h4⟩:=jf h.AO;obtain⟨r,hr,hm,hg,hl⟩:=h.form;refine vg (by have:=h.Ea;rw[h.epv];omega) ?_ hl hg;rw[hr];intro e;exact h.ne (List.append_eq_nil_iff.1 e).1
theorem Is.again(h:Is ep c fl t g j last d):uY d.ep d.l d.fl d.t [] [] last=⟨20,0,[],0,[]⟩:=by
 obtain⟨r,hr,_,hg,_⟩:=h.form;have hfirst:firsts d.l d.t []=firsts c t g:=by
  unfold firsts;have e1:∀m∈d.l,isFirst [] d.t m=true↔m∈firsts c t g:=by
   intro m hm;unfold isFirst;simp only[List.contains_nil,Bool.not_false,Bool.true_and,List.contains_iff_mem];rw[h.tv,zV];constructor
   ·rintro⟨x,hx,e⟩;obtain rfl:x=m:=vw hg.nd (by rw[hr];exact List.mem_append_left _ hx) hm e;exact hx
   ·intro hx;exact⟨m,hx,rfl⟩
  have hnd:d.l.Nodup:=by have:=hg.nd;rw[List.nodup_iff_pairwise_ne,List.pairwise_map]at this;rw[List.nodup_iff_pairwise_ne];exact this.imp fun h e=>h (by rw[e])
  generalize isFirst [] d.t=p at e1;rw[hr]at e1 hnd⊢;rw[List.filter_append];have e2:(firsts c t g).filter p=firsts c t g:=List.filter_eq_self.2 fun m hm=>(e1 m (List.mem_append_left _ hm)).2 hm;have e3:(rests c t g++r).filter p=[]:=by rw[List.filter_eq_nil_iff];intro m hm hp;have:=(e1 m (List.mem_append_right _ hm)).1 hp;rw[List.nodup_append]at hnd;exact hnd.2.2 m this m hm rfl
  show List.filter p (firsts c t g)++_=_;rw[e2,e3,List.append_nil];rfl
 have hrest:rests d.l d.t []=rests c t g++r:=by
  have e4:rests d.l d.t []=d.l.filter fun m=> !isFirst [] d.t m:=by unfold rests;congr 1
  have e5:firsts d.l d.t []=d.l.filter (isFirst [] d.t):=rfl;rw[hfirst]at e5;have e1:∀m∈d.l,isFirst [] d.t m=true↔m∈firsts c t g:=by intro m hm;rw[e5,List.mem_filter];exact⟨fun h=>⟨hm,h⟩,fun h=>h.2⟩
  have hnd:d.l.Nodup:=by have:=hg.nd;rw[List.nodup_iff_pairwise_ne,List.pairwise_map]at this;rw[List.nodup_iff_pairwise_ne];exact this.imp fun h e=>h (by rw[e])
  rw[e4];generalize isFirst [] d.t=p at e1;rw[hr]at e1 hnd⊢;rw[List.filter_append];have e2:(firsts c t g).filter (fun m=> !p m)=[]:=by rw[List.filter_eq_nil_iff];intro m hm hp;rw[(e1 m (List.mem_append_left _ hm)).2 hm]at hp;cases hp
  have e3:(rests c t g++r).filter (fun m=> !p m)=rests c t g++r:=List.filter_eq_self.2 fun m hm=>by rw[Bool.not_eq_true',Bool.eq_false_iff];intro hp;have:=(e1 m (List.mem_append_right _ hm)).1 hp;rw[List.nodup_append]at hnd;exact hnd.2.2 m this m hm rfl
  rw[e2,e3,List.nil_append]
 unfold uY;rw[if_neg (by simp[h.chk]),if_neg (by rw[hfirst];exact h.ne),if_pos];unfold allOf fP;rw[hfirst,hrest,hr];rfl
end
end aJ
end Go.Proofs.YtgbigpdiacjbgaaGreat
namespace Go.Proofs.YtgbigpdiacjbgaaGreat
open Go.RowKit
namespace aJ
abbrev tJ(m:Mem):List Value:=[.int .i64 m.1,.int .i64 m.2]
abbrev aZ(l:List Mem):List Value:=l.flatMap tJ
abbrev jg(m:Mem):Value:=.agg #[.int .i64 m.1,.int .i64 m.2]
abbrev ints(l:List Int):List Value:=l.map (Value.int .i64)
theorem mJ(a:List Mem)(k:Nat):(aZ a).take (k*2)=aZ (a.take k):=by
 induction a generalizing k with
 |nil=>simp[aZ]
 |cons x a ih=>
  cases k with
  |zero=>simp[aZ]
  |succ k=>
   have e:(k+1)*2=k*2+1+1:=by omega
   show(Value.int .i64 x.1::Value.int .i64 x.2::aZ a).take ((k+1)*2)=Value.int .i64 x.1::Value.int .i64 x.2::aZ (a.take k);rw[e];simp[ih]
theorem jq{w:World}{A:Option Addr}{m:Nat}{l:List Mem}(h:Src w 2 A m (aZ l))(hm:0<m)(i:Nat)(p:Mem)(hp:l[i]? =some p):
  ∃ad,A=some ad/\ad.block<w.heap.size/\w.cell? (ad.add (i*2))=some (.int .i64 p.1)/\w.cell? ⟨(ad.add (i*2)).block,(ad.add (i*2)).off+1,none⟩=some (.int .i64 p.2):=by
 obtain⟨ad,rfl,had,hcell⟩:=h.2 hm;have k0:(aZ l)[i*2]? =some (.int .i64 p.1):=by rw[flat_get tJ 2 (by decide) (fun _=>rfl),show i*2/2=i by omega,show i*2%2=0 by omega,hp];rfl
 have k1:(aZ l)[i*2+1]? =some (.int .i64 p.2):=by rw[flat_get tJ 2 (by decide) (fun _=>rfl),show(i*2+1)/2=i by omega,show(i*2+1)%2=1 by omega,hp];rfl
 refine⟨ad,rfl,had,hcell _ _ k0,?_⟩;rw[<-add_lit _ (by omega),add_add];exact hcell _ _ k1
theorem drop_cons{α:Type}{l:List α}{i:Nat}{a:α}(h:l[i]? =some a):l.drop i=a::l.drop (i+1):=by obtain⟨hl,rfl⟩:=lD0.1 h;exact List.drop_eq_getElem_cons hl
theorem take_snoc{α:Type}{l:List α}{i:Nat}{a:α}(h:l[i]? =some a):l.take (i+1)=l.take i++[a]:=by rw[List.take_add_one,h];rfl
end aJ
namespace aJ
abbrev xJ(ep:Int)(A:Option Addr)(n c:Nat)(fl:Int):Value:=.agg #[.int .i64 ep,.slice A n c,.int .u64 fl]

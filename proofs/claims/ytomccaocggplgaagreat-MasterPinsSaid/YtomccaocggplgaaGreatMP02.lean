/- Part 3. -/
import Derived.Test.YtomccaocggplgaaGreatMP01
set_option linter.unusedSimpArgs false
set_option linter.unusedVariables false
set_option maxHeartbeats 32000000
set_option maxRecDepth 100000
namespace Go.Proofs.YtomccaocggplgaaGreat
namespace aJ
abbrev Mem:=Int×Int
def pF(m:Mem)(a:List Mem):Int:=
 if m.1<0\/4<=m.1 then 1 else if m.2<1\/1073741824<m.2 then 5 else if a.any (fun x=>decide (x.1=m.1))then 18 else 0
def kH:List Mem->List Mem->Int
 |_,[]=>0
 |a,m::r=>if pF m a=0 then kH (a++[m]) r else pF m a
def chk(ep:Int)(l:List Mem):Int:=
 if ep<1\/1073741824<ep then 5 else if l.length=0 then 7 else if 4<l.length then 6 else kH [] l
def jR(l:List Mem)(m:Mem):List Mem:=if l.length<4/\chk 1 [m]=0/\l.any (fun x=>decide (x.1=m.1))=false then l++[m]else l
def fP(l:List Mem)(j:List Mem):List Mem:=j.foldl jR l
def isFirst(g t:List Int)(m:Mem):Bool:= !g.contains m.1&&t.contains m.1
def wZ(g t:List Int)(m:Mem):Bool:= !g.contains m.1&& !t.contains m.1
def firsts(c:List Mem)(t g:List Int):List Mem:=c.filter (isFirst g t)
def rests(c:List Mem)(t g:List Int):List Mem:=c.filter (wZ g t)
def allOf(c:List Mem)(t g:List Int)(j:List Mem):List Mem:=fP (firsts c t g++rests c t g) j
def aW:Int:=18446744073709551615
def pG(f last:Int):Int:=if last=aW then aW else max f (last+1)
def ids(l:List Mem):List Int:=(l.map (·.1)).mergeSort fun a b=>decide (a<=b)
structure Next where
 e:Int
 ep:Int
 l:List Mem
 fl:Int
 t:List Int
def iH(ep:Int)(c:List Mem)(fl:Int)(t g:List Int)(j:List Mem)(last:Int):Next:=
 if chk ep c≠0 then ⟨chk ep c,0,[],0,[]⟩
 else if firsts c t g=[]then ⟨7,0,[],0,[]⟩
 else if allOf c t g j=c then ⟨20,0,[],0,[]⟩
 else if 1073741824<=ep then ⟨5,0,[],0,[]⟩
 else⟨0,ep+1,allOf c t g j,pG fl last,ids (firsts c t g)⟩
structure Good(l:List Mem):Prop where
 id:∀m∈l,0<=m.1/\m.1<4
 aX:∀m∈l,1<=m.2/\m.2<=1073741824
 nd:(l.map (·.1)).Nodup
theorem Xg{m:Mem}{a:List Mem}(h:pF m a=0):(0<=m.1/\m.1<4)/\(1<=m.2/\m.2<=1073741824)/\∀x∈a,x.1≠m.1:=by
 unfold pF at h;split at h
 ·cases h
 ·split at h
  ·cases h
  ·split at h
   ·cases h
   ·rename_i h1 h2 h3;refine⟨by omega,by omega,fun x hx e=>h3 ?_⟩;simp only[List.any_eq_true,decide_eq_true_eq];exact⟨x,hx,e⟩
theorem ad7{m:Mem}{a:List Mem}(h1:0<=m.1/\m.1<4)(h2:1<=m.2/\m.2<=1073741824)(h3:∀x∈a,x.1≠m.1):pF m a=0:=by unfold pF;rw[if_neg (by omega),if_neg (by omega),if_neg];simp only[List.any_eq_true,decide_eq_true_eq,not_exists,not_and];exact h3
theorem Oo{r:List Mem}:∀{a:List Mem},Good a->kH a r=0->Good (a++r):=by
 induction r with
 |nil=>intro a h _;simpa using h
 |cons m r ih=>
  intro a h hc;unfold kH at hc;split at hc
  ·rename_i h0;obtain⟨h1,h2,h3⟩:=Xg h0;have hg:Good (a++[m]):=by
    refine⟨?_,?_,?_⟩
    ·intro x hx;rcases List.mem_append.1 hx with hx|hx
     ·exact h.id x hx
     ·obtain rfl:=List.mem_singleton.1 hx;exact h1
    ·intro x hx;rcases List.mem_append.1 hx with hx|hx
     ·exact h.aX x hx
     ·obtain rfl:=List.mem_singleton.1 hx;exact h2
    ·rw[List.map_append,List.nodup_append];refine⟨h.nd,by simp,?_⟩;intro x hx y hy e;obtain⟨z,hz,rfl⟩:=List.mem_map.1 hx;simp at hy;exact h3 z hz (e.trans hy)
   have:=ih hg hc;simpa using this
  ·rename_i h0;exact absurd hc h0
theorem Uy{r:List Mem}:∀{a:List Mem},Good (a++r)->kH a r=0:=by
 induction r with
 |nil=>intro a _;rfl
 |cons m r ih=>
  intro a h;unfold kH;have h0:pF m a=0:=by refine ad7 (h.id m (by simp)) (h.aX m (by simp)) fun x hx e=> ?_;have:=h.nd;rw[List.map_append,List.nodup_append]at this;exact this.2.2 x.1 (List.mem_map.2 ⟨x,hx,rfl⟩) m.1 (by simp) e
  rw[if_pos h0];exact ih (by simpa using h)
theorem aaN:Good []:=⟨by simp,by simp,by simp⟩
theorem jf{ep:Int}{l:List Mem}(h:chk ep l=0):(1<=ep/\ep<=1073741824)/\l≠[]/\l.length<=4/\Good l:=by
 unfold chk at h;split at h
 ·cases h
 ·split at h
  ·cases h
  ·split at h
   ·cases h
   ·rename_i h1 h2 h3;refine⟨by omega,?_,by omega,by simpa using Oo aaN h⟩;rintro rfl;exact h2 rfl
theorem Xh{ep:Int}{l:List Mem}(h1:1<=ep/\ep<=1073741824)(h2:l≠[])(h3:l.length<=4)(h4:Good l):chk ep l=0:=by unfold chk;rw[if_neg (by omega),if_neg (by intro e;exact h2 (List.eq_nil_of_length_eq_zero e)),if_neg (by omega)];exact Uy (by simpa using h4)
theorem aaO{m:Mem}:chk 1 [m]=0↔(0<=m.1/\m.1<4)/\(1<=m.2/\m.2<=1073741824):=by
 constructor
 ·intro h;have hg:=(jf h).2.2.2;exact⟨hg.id m (by simp),hg.aX m (by simp)⟩
 ·intro h;exact Xh (by omega) (by simp) (by simp) ⟨by intro x hx;obtain rfl:=List.mem_singleton.1 hx;exact h.1,by intro x hx;obtain rfl:=List.mem_singleton.1 hx;exact h.2,by simp⟩
theorem AP{l:List Mem}(h:Good l)(p:Mem->Bool):Good (l.filter p):=
 ⟨fun m hm=>h.id m (List.mem_filter.1 hm).1,fun m hm=>h.aX m (List.mem_filter.1 hm).1,h.nd.sublist (List.filter_sublist.map _)⟩
theorem Oq{l:List Mem}(h:(l.map (·.1)).Nodup){x y:Mem}(hx:x∈l)(hy:y∈l)(e:x.1=y.1):x=y:=by
 induction l with
 |nil=>cases hx
 |cons a l ih=>
  rw[List.map_cons,List.nodup_cons]at h;rcases List.mem_cons.1 hx with rfl|hx'
  ·rcases List.mem_cons.1 hy with rfl|hy'
   ·rfl
   ·exact absurd (List.mem_map.2 ⟨y,hy',e.symm⟩) h.1
  ·rcases List.mem_cons.1 hy with rfl|hy'
   ·exact absurd (List.mem_map.2 ⟨x,hx',e⟩) h.1
   ·exact ih h.2 hx' hy'
theorem aaP{l:List Mem}(h:Good l)(g t:List Int):Good (firsts l t g++rests l t g):=by
 refine⟨?_,?_,?_⟩
 ·intro m hm;rcases List.mem_append.1 hm with hm|hm
  ·exact h.id m (List.mem_filter.1 hm).1
  ·exact h.id m (List.mem_filter.1 hm).1
 ·intro m hm;rcases List.mem_append.1 hm with hm|hm
  ·exact h.aX m (List.mem_filter.1 hm).1
  ·exact h.aX m (List.mem_filter.1 hm).1
 ·rw[List.map_append,List.nodup_append];refine⟨(AP h _).nd,(AP h _).nd,?_⟩;intro x hx y hy e;obtain⟨a,ha,rfl⟩:=List.mem_map.1 hx;obtain⟨b,hb,rfl⟩:=List.mem_map.1 hy;have ha':=List.mem_filter.1 ha;have hb':=List.mem_filter.1 hb;obtain rfl:=Oq h.nd ha'.1 hb'.1 e;have h1:=ha'.2;have h2:=hb'.2;unfold isFirst at h1;unfold wZ at h2;simp at h1 h2;exact h2.2 h1.2
theorem FN(l:List Mem)(g t:List Int):(firsts l t g++rests l t g).length<=l.length:=by
 unfold firsts rests;rw[List.length_append];induction l with
 |nil=>simp
 |cons m l ih=>
  rw[List.filter_cons,List.filter_cons];have:¬(isFirst g t m=true/\wZ g t m=true):=by unfold isFirst wZ;cases t.contains m.1<;>simp
  split<;>split<;>simp_all<;>omega
theorem Ot{l:List Mem}(h:Good l)(hl:l.length<=4)(m:Mem):Good (jR l m)/\(jR l m).length<=4:=by
 unfold jR;split
 ·rename_i hc;obtain⟨h1,h2,h3⟩:=hc;obtain⟨h4,h5⟩:=aaO.1 h2;refine⟨⟨?_,?_,?_⟩,by simp;omega⟩
  ·intro x hx;rcases List.mem_append.1 hx with hx|hx
   ·exact h.id x hx
   ·obtain rfl:=List.mem_singleton.1 hx;exact h4
  ·intro x hx;rcases List.mem_append.1 hx with hx|hx
   ·exact h.aX x hx
   ·obtain rfl:=List.mem_singleton.1 hx;exact h5
  ·rw[List.map_append,List.nodup_append];refine⟨h.nd,by simp,?_⟩;intro x hx y hy e;obtain⟨z,hz,rfl⟩:=List.mem_map.1 hx;simp at hy;have hn:¬(l.any fun x=>decide (x.1=m.1))=true:=by rw[h3];simp
   exact hn (List.any_eq_true.2 ⟨z,hz,by simp[e.trans hy]⟩)
 ·exact⟨h,hl⟩
theorem Ou(j:List Mem):∀{l:List Mem},Good l->l.length<=4->Good (fP l j)/\(fP l j).length<=4:=by
 induction j with
 |nil=>intro l h hl;exact⟨h,hl⟩
 |cons m j ih=>
  intro l h hl;obtain⟨h1,h2⟩:=Ot h hl m;exact ih h1 h2
theorem Ks(j:List Mem):∀(l:List Mem),∃r,fP l j=l++r/\∀m∈r,m∈j:=by
 induction j with
 |nil=>intro l;exact⟨[],by simp[fP],by simp⟩
 |cons m j ih=>
  intro l;have e:fP l (m::j)=fP (jR l m) j:=rfl;obtain⟨r,hr,hm⟩:=ih (jR l m);rw[e,hr];unfold jR;split
  ·exact⟨m::r,by simp,by intro x hx;rcases List.mem_cons.1 hx with rfl|hx;exact List.mem_cons_self;exact List.mem_cons_of_mem _ (hm x hx)⟩
  ·exact⟨r,rfl,fun x hx=>List.mem_cons_of_mem _ (hm x hx)⟩
theorem Ov(l j:List Mem)(m:Mem):fP l (j++[m])=jR (fP l j) m:=by simp[fP]
def Kt(l:List Mem):List Int:=([0,1,2,3]:List Int).flatMap fun i=>(l.filter fun m=>decide (m.1=i)).map (·.1)
theorem ad8{l:List Mem}(h:∀m∈l,0<=m.1/\m.1<4):Kt l=ids l:=by
 have hp:(Kt l).Perm (l.map (·.1)):=by
  have e:Kt l=([0,1,2,3]:List Int).flatMap fun i=>(l.map (·.1)).filter fun x=>decide (x=i):=by unfold Kt;congr 1;funext i;rw[List.filter_map];rfl
  rw[e];have ha:∀x∈l.map (·.1),0<=x/\x<4:=by intro x hx;obtain⟨m,hm,rfl⟩:=List.mem_map.1 hx;exact h m hm
  rw[List.perm_iff_count];intro x;simp only[List.flatMap_cons,List.flatMap_nil,List.count_append,List.append_nil];have hc:∀i:Int,List.count x ((l.map (·.1)).filter fun y=>decide (y=i))=if x=i then List.count x (l.map (·.1))else 0:=by
   intro i;split
   ·rename_i e;subst e;rw[List.count_filter (by simp)]
   ·rename_i e;refine List.count_eq_zero.2 fun hx=> ?_;have:=(List.mem_filter.1 hx).2;simp at this;exact e this
  rw[hc,hc,hc,hc];by_cases hx:x∈l.map (·.1)
  ·have:=ha x hx;have h4:x=0\/x=1\/x=2\/x=3:=by omega
   rcases h4 with rfl|rfl|rfl|rfl<;>simp
  ·rw[List.count_eq_zero.2 hx];simp
 have hs:(Kt l).Pairwise fun a b=>a<=b:=by
  unfold Kt;have hi:∀(i:Int),∀x∈(l.filter fun m=>decide (m.1=i)).map (·.1),x=i:=by intro i x hx;obtain⟨m,hm,rfl⟩:=List.mem_map.1 hx;simpa using(List.mem_filter.1 hm).2
  have hpi:∀(i:Int),((l.filter fun m=>decide (m.1=i)).map (·.1)).Pairwise fun a b=>a<=b:=by intro i;rw[List.pairwise_iff_forall_sublist];intro a b hab;have h1:=hi i a (hab.subset (by simp));have h2:=hi i b (hab.subset (by simp));omega
  simp only[List.flatMap_cons,List.flatMap_nil,List.append_nil];refine List.pairwise_append.2 ⟨hpi 0,List.pairwise_append.2 ⟨hpi 1,List.pairwise_append.2 ⟨hpi 2,hpi 3,?_⟩,?_⟩,?_⟩
  ·intro a ha b hb;have:=hi _ a ha;have:=hi _ b hb;omega
  ·intro a ha b hb;have:=hi _ a ha;rcases List.mem_append.1 hb with hb|hb<;>(have:=hi _ b hb;omega)
  ·intro a ha b hb;have:=hi _ a ha;rcases List.mem_append.1 hb with hb|hb
   ·have:=hi _ b hb;omega
   ·rcases List.mem_append.1 hb with hb|hb<;>(have:=hi _ b hb;omega)
 have hm:(ids l).Pairwise fun a b=>a<=b:=by have:=List.pairwise_mergeSort (le:=fun a b:Int=>decide (a<=b)) (by intro a b c;simp;omega) (by intro a b;simp;omega) (l.map (·.1));exact this.imp fun h=>by simpa using h
 exact List.Perm.eq_of_pairwise (fun a b _ _ h1 h2=>by omega) hs hm (hp.trans (List.mergeSort_perm _ _).symm)
theorem BF{l:List Mem}{x:Int}:x∈ids l↔∃m∈l,m.1=x:=by unfold ids;rw[List.mem_mergeSort,List.mem_map]
theorem Ku(l:List Mem):(ids l).length=l.length:=by simp[ids]
theorem Ox{l:List Mem}(h:(l.map (·.1)).Nodup):(ids l).Pairwise fun a b=>a<b:=by
 have hs:(ids l).Pairwise fun a b=>a<=b:=by have:=List.pairwise_mergeSort (le:=fun a b:Int=>decide (a<=b)) (by intro a b c;simp;omega) (by intro a b;simp;omega) (l.map (·.1));exact this.imp fun h=>by simpa using h
 have hn:(ids l).Nodup:=(List.mergeSort_perm _ _).nodup_iff.2 h;exact hs.imp₂ (fun a b h1 h2=>by omega) hn
structure Is(ep:Int)(c:List Mem)(fl:Int)(t g:List Int)(j:List Mem)(last:Int)(d:Next):Prop where
 Uz:chk ep c=0
 epv:d.ep=ep+1
 ahu:ep<1073741824
 lv:d.l=allOf c t g j
 flv:d.fl=pG fl last
 tv:d.t=ids (firsts c t g)
 ne:firsts c t g≠[]
theorem BG{ep:Int}{c:List Mem}{fl:Int}{t g:List Int}{j:List Mem}{last:Int}(h:(iH ep c fl t g j last).e=0):Is ep c fl t g j last (iH ep c fl t g j last):=by
 unfold iH at h⊢;split at h
 ·rename_i hc;exact absurd h hc
 ·rename_i hc;split at h
  ·cases h
  ·rename_i hf;split at h
   ·cases h
   ·rename_i ha;split at h
    ·cases h
    ·rename_i he;rw[if_neg hc,if_neg hf,if_neg ha,if_neg he];exact⟨by simpa using hc,rfl,by omega,rfl,rfl,rfl,hf⟩
theorem aaQ{ep:Int}{c:List Mem}{fl:Int}{t g:List Int}{j:List Mem}{last:Int}(h:(iH ep c fl t g j last).e≠0):(iH ep c fl t g j last).ep=0/\(iH ep c fl t g j last).l=[]/\(iH ep c fl t g j last).fl=0/\(iH ep c fl t g j last).t=[]:=by
 unfold iH at h⊢;split
 ·exact⟨rfl,rfl,rfl,rfl⟩
 ·split
  ·exact⟨rfl,rfl,rfl,rfl⟩
  ·split
   ·exact⟨rfl,rfl,rfl,rfl⟩
   ·split
    ·exact⟨rfl,rfl,rfl,rfl⟩
    ·rename_i h1 h2 h3 h4;rw[if_neg h1,if_neg h2,if_neg h3,if_neg h4]at h;exact absurd rfl h
section
variable{ep:Int}{c:List Mem}{fl:Int}{t g:List Int}{j:List Mem}{last:Int}{d:Next}
theorem Is.form(h:Is ep c fl t g j last d):∃r,d.l=firsts c t g++(rests c t g++r)/\(∀m∈r,m∈j)/\Good d.l/\d.l.length<=4:=by obtain⟨h1,h2,h3,h4⟩:=jf h.Uz;obtain⟨r,hr,hm⟩:=Ks j (firsts c t g++rests c t g);have hg:=Ou j (aaP h4 g t) (Nat.le_trans (FN c g t) h3);refine⟨r,by rw[h.lv];unfold allOf;rw[hr,List.append_assoc],hm,?_⟩;rw[h.lv];exact hg
theorem Is.chk(h:Is ep c fl t g j last d):aJ.chk d.ep d.l=0:=by obtain⟨h1,h2,h3,h4⟩:=jf h.Uz;obtain⟨r,hr,hm,hg,hl⟩:=h.form;refine Xh (by have:=h.ahu;rw[h.epv];omega) ?_ hl hg;rw[hr];intro e;exact h.ne (List.append_eq_nil_iff.1 e).1
theorem Is.floor(h:Is ep c fl t g j last d)(hf:fl<=aW):fl<=d.fl:=by rw[h.flv];unfold pG;split<;>omega
theorem Is.ad9(h:Is ep c fl t g j last d){m:Mem}(hm:m∈d.l)(ht:m.1∈d.t):m∈c/\m.1∈t/\m.1∉g:=by obtain⟨r,hr,_,hg,_⟩:=h.form;rw[h.tv,BF]at ht;obtain⟨x,hx,e⟩:=ht;obtain rfl:x=m:=Oq hg.nd (by rw[hr];exact List.mem_append_left _ hx) hm e;have:=List.mem_filter.1 hx;refine⟨this.1,?_⟩;have h2:=this.2;unfold isFirst at h2;simp at h2;exact⟨h2.2,h2.1⟩
theorem Is.vZ(h:Is ep c fl t g j last d):d.t.Pairwise fun a b=>a<b:=by obtain⟨h1,h2,h3,h4⟩:=jf h.Uz;rw[h.tv];exact Ox (AP h4 _).nd
theorem Is.again(h:Is ep c fl t g j last d):iH d.ep d.l d.fl d.t [] [] last=⟨20,0,[],0,[]⟩:=by
 obtain⟨r,hr,_,hg,_⟩:=h.form;have hfirst:firsts d.l d.t []=firsts c t g:=by
  unfold firsts;have e1:∀m∈d.l,isFirst [] d.t m=true↔m∈firsts c t g:=by
   intro m hm;unfold isFirst;simp only[List.contains_nil,Bool.not_false,Bool.true_and,List.contains_iff_mem];rw[h.tv,BF];constructor
   ·rintro⟨x,hx,e⟩;obtain rfl:x=m:=Oq hg.nd (by rw[hr];exact List.mem_append_left _ hx) hm e;exact hx
   ·intro hx;exact⟨m,hx,rfl⟩
  have hnd:d.l.Nodup:=by have:=hg.nd;rw[List.nodup_iff_pairwise_ne,List.pairwise_map]at this;rw[List.nodup_iff_pairwise_ne];exact this.imp fun h e=>h (by rw[e])
  generalize isFirst [] d.t=p at e1;rw[hr]at e1 hnd⊢;rw[List.filter_append];have e2:(firsts c t g).filter p=firsts c t g:=List.filter_eq_self.2 fun m hm=>(e1 m (List.mem_append_left _ hm)).2 hm;have e3:(rests c t g++r).filter p=[]:=by rw[List.filter_eq_nil_iff];intro m hm hp;have:=(e1 m (List.mem_append_right _ hm)).1 hp;rw[List.nodup_append]at hnd;exact hnd.2.2 m this m hm rfl
  show List.filter p (firsts c t g)++_=_;rw[e2,e3,List.append_nil];rfl
 have hrest:rests d.l d.t []=rests c t g++r:=by
  have e4:rests d.l d.t []=d.l.filter fun m=> !isFirst [] d.t m:=by unfold rests;congr 1
  have e5:firsts d.l d.t []=d.l.filter (isFirst [] d.t):=rfl;rw[hfirst]at e5;have e1:∀m∈d.l,isFirst [] d.t m=true↔m∈firsts c t g:=by intro m hm;rw[e5,List.mem_filter];exact⟨fun h=>⟨hm,h⟩,fun h=>h.2⟩
  have hnd:d.l.Nodup:=by have:=hg.nd;rw[List.nodup_iff_pairwise_ne,List.pairwise_map]at this;rw[List.nodup_iff_pairwise_ne];exact this.imp fun h e=>h (by rw[e])
  rw[e4];generalize isFirst [] d.t=p at e1;rw[hr]at e1 hnd⊢;rw[List.filter_append];have e2:(firsts c t g).filter (fun m=> !p m)=[]:=by rw[List.filter_eq_nil_iff];intro m hm hp;rw[(e1 m (List.mem_append_left _ hm)).2 hm]at hp;cases hp
  have e3:(rests c t g++r).filter (fun m=> !p m)=rests c t g++r:=List.filter_eq_self.2 fun m hm=>by rw[Bool.not_eq_true',Bool.eq_false_iff];intro hp;have:=(e1 m (List.mem_append_right _ hm)).1 hp;rw[List.nodup_append]at hnd;exact hnd.2.2 m this m hm rfl
  rw[e2,e3,List.nil_append]
 unfold iH;rw[if_neg (by simp[h.chk]),if_neg (by rw[hfirst];exact h.ne),if_pos];unfold allOf fP;rw[hfirst,hrest,hr];rfl
end
end aJ
end Go.Proofs.YtomccaocggplgaaGreat
namespace Go.Proofs.YtomccaocggplgaaGreat
open Go.RowKit
namespace aJ
abbrev FO(m:Mem):List Value:=[.int .i64 m.1,.int .i64 m.2]
abbrev aU(l:List Mem):List Value:=l.flatMap FO
abbrev jH(m:Mem):Value:=.agg #[.int .i64 m.1,.int .i64 m.2]
abbrev ints(l:List Int):List Value:=l.map (Value.int .i64)
theorem xX(a b:List Mem):aU (a++b)=aU a++aU b:=by simp[aU]
theorem AQ(a:List Mem)(k:Nat):(aU a).take (k*2)=aU (a.take k):=by
 induction a generalizing k with
 |nil=>simp[aU]
 |cons x a ih=>
  cases k with
  |zero=>simp[aU]
  |succ k=>
   have e:(k+1)*2=k*2+1+1:=by omega
   show(Value.int .i64 x.1::Value.int .i64 x.2::aU a).take ((k+1)*2)=Value.int .i64 x.1::Value.int .i64 x.2::aU (a.take k);rw[e];simp[ih]
theorem jr{w:World}{A:Option Addr}{m:Nat}{l:List Mem}(h:Src w 2 A m (aU l))(hm:0<m)(i:Nat)(p:Mem)(hp:l[i]? =some p):
  ∃ad,A=some ad/\ad.block<w.heap.size/\w.cell? (ad.add (i*2))=some (.int .i64 p.1)/\w.cell? ⟨(ad.add (i*2)).block,(ad.add (i*2)).off+1,none⟩=some (.int .i64 p.2):=by
 obtain⟨ad,rfl,had,hcell⟩:=h.2 hm;have k0:(aU l)[i*2]? =some (.int .i64 p.1):=by rw[flat_get FO 2 (by decide) (fun _=>rfl),show i*2/2=i by omega,show i*2%2=0 by omega,hp];rfl
 have k1:(aU l)[i*2+1]? =some (.int .i64 p.2):=by rw[flat_get FO 2 (by decide) (fun _=>rfl),show(i*2+1)/2=i by omega,show(i*2+1)%2=1 by omega,hp];rfl
 refine⟨ad,rfl,had,hcell _ _ k0,?_⟩;rw[<-add_lit _ (by omega),add_add];exact hcell _ _ k1
theorem qZ{w:World}{A:Option Addr}{m:Nat}{l:List Int}(h:Src w 1 A m (ints l))(hm:0<m)(i:Nat)(x:Int)(hx:l[i]? =some x):
  ∃ad,A=some ad/\ad.block<w.heap.size/\w.cell? (ad.add i)=some (.int .i64 x):=by
 obtain⟨ad,rfl,had,hcell⟩:=h.2 hm;exact⟨ad,rfl,had,hcell i _ (by simp[hx])⟩
theorem Rk(p q:Mem)(W:World):(binOp .eql 56 (jH p) (jH q)).run Tryz.prog W=.ok (.bool (decide (p=q))) W:=by obtain⟨p1,p2⟩:=p;obtain⟨q1,q2⟩:=q;by_cases h1:p1=q1<;>by_cases h2:p2=q2<;>simp[go_sem,h1,h2]
theorem Rl(p q:Mem)(W:World):(binOp .neq 56 (jH p) (jH q)).run Tryz.prog W=.ok (.bool (decide (p≠q))) W:=by obtain⟨p1,p2⟩:=p;obtain⟨q1,q2⟩:=q;by_cases h1:p1=q1<;>by_cases h2:p2=q2<;>simp[go_sem,h1,h2]
theorem drop_cons{α:Type}{l:List α}{i:Nat}{a:α}(h:l[i]? =some a):l.drop i=a::l.drop (i+1):=by obtain⟨hl,rfl⟩:=lD0.1 h;exact List.drop_eq_getElem_cons hl
theorem take_snoc{α:Type}{l:List α}{i:Nat}{a:α}(h:l[i]? =some a):l.take (i+1)=l.take i++[a]:=by rw[List.take_add_one,h];rfl
theorem oH:Elem Tryz.prog 22 56 2 16:=
 by
 obtain⟨i0,hi,hz0,hz1,hz2⟩:=info_parts (show(Tryz.prog.info? 56).map (fun i=>(i.zero,i.size,i.bytes))=some (some (.agg #[.int .i64 0,.int .i64 0]),2,16) by kernel_rfl)
 exact⟨Tryz.underlying22,⟨i0,_,hi,hz0,hz1,hz2,rfl⟩,by decide⟩
theorem jS:Elem Tryz.prog 71 3 1 8:=
 by
 obtain⟨i0,hi,hz0,hz1,hz2⟩:=info_parts (show(Tryz.prog.info? 3).map (fun i=>(i.zero,i.size,i.bytes))=some (some (.int .i64 0),1,8) by kernel_rfl)
 exact⟨Tryz.underlying71,⟨i0,_,hi,hz0,hz1,hz2,rfl⟩,by decide⟩
theorem Tn(l:List Mem):∀u∈aU l,u.oneCell'=true:=by intro u hu;obtain⟨m,_,hm⟩:=List.mem_flatMap.1 hu;simp[FO]at hm;rcases hm with rfl|rfl<;>rfl
end aJ
namespace aJ
abbrev nC(ep:Int)(A:Option Addr)(n c:Nat)(fl:Int):Value:=.agg #[.int .i64 ep,.slice A n c,.int .u64 fl]
def inB(l:List Int)(x:Int):Bool:=l.contains x
def cO(l:List Mem)(x:Int):Bool:=l.any fun m=>decide (m.1=x)
theorem UA(a b M:Int)(h:max a b=M)(W:World)(ts:Array TypeId)(t:TypeId):(Builtin.max_ ts t #[.int .u64 a,.int .u64 b]).run Tryz.prog W=.ok (.int .u64 M) W:=by
 rw[run_max_int2];split
 ·rw[show M=b by omega]
 ·rw[show M=a by omega]
theorem UB(w:World)(f last:Int)(hf:0<=f/\f<=aW)(h:0<=last/\last<=aW):
  Calls Tryz.prog 181 #[.int .u64 f,.int .u64 last] w fun e w'=>e=.returned (.int .u64 (pG f last))/\w=w':=by
 unfold aW at hf h;by_cases hm:last=18446744073709551615
 ·have hr:pG f last=18446744073709551615:=by unfold pG aW;rw[if_pos hm]
  have HR:=ah hr;clear hr;subst hm;go_enter Tryz.func181,Tryz.ntmps181;go_wp2;go_ret;exact⟨by rw[HR.out];rfl,rfl⟩
 ·have hr:pG f last=max f (last+1):=by unfold pG aW;rw[if_neg hm]
  obtain⟨M,hM⟩:∃M,max f (last+1)=M:=⟨_,rfl⟩;rw[hM]at hr;have HR:=ah hr;clear hr;have hmx:=UA f (last+1) M hM;have hlt:last<18446744073709551615:=by omega
  have hne:(last==18446744073709551615)=false:=by simpa using hm
  clear hm hM;go_enter Tryz.func181,Tryz.ntmps181;go_wp2;go_ret;exact⟨by rw[HR.out];rfl,rfl⟩
end aJ
namespace gu
open aJ Ops yt Vn
structure bD where
 k:Int
 ep:Int
 req:Int
 aX:Int
 fl:Bool
 at':Int
 last:Int
 n:Int
 m:Int
 p:Int
 e:Int
 key:ByteArray
 to:ByteArray
 zL:Int
 mA:Option Addr
 mc:Nat
 ms:List Mem
 BH:Int
 ji:Int
 gK:Int
 oA:Option Addr
 oc:Nat
 ops:List uN
 eA:Option Addr
 ec:Nat
 es:List lW
 sA:Option Addr
 sc:Nat
 ss:List Int
 pA:Option Addr
 pc:Nat
 ps:List mW
def xY(l:List Int):List Value:=l.map (Value.int .u64)
def aI(x:bD):List Value:=[.int .i64 x.k,.int .i64 x.ep,.int .i64 x.req,.int .i64 x.aX,.bool x.fl,.int .u64 x.at',.int .u64 x.last,.int .i64 x.n,.int .i64 x.m,.int .i64 x.p,.int .i64 x.e,.string x.key,.string x.to,
 .int .i64 x.zL,.slice x.mA x.ms.length x.mc,.int .u64 x.BH,.int .i64 x.ji,.int .i64 x.gK,.slice x.oA x.ops.length x.oc,.slice x.eA x.es.length x.ec,.slice x.sA x.ss.length x.sc,.slice x.pA x.ps.length x.pc]
abbrev iE(x:bD):Value:=.agg (aI x).toArray
def tX(x:bD):Batch:=⟨x.ji,x.gK,x.ops⟩
structure jd(w:World)(x:bD):Prop where
 m:Src w 2 x.mA x.ms.length (aU x.ms)
 mc:x.ms.length<=x.mc
 ml:x.ms.length<=1000
 o:Src w 3 x.oA x.ops.length (cells x.ops)
 e:Src w 4 x.eA x.es.length (yU x.es)
 eo:∀y∈x.es,Src w 3 y.A y.ops.length (cells y.ops)/\0<=y.ts/\y.ts<=aW
 el:x.es.length<=1000
 s:Src w 1 x.sA x.ss.length (xY x.ss)
 sl:x.ss.length<=1000
 so:∀y∈x.ss,0<=y/\y<=aW
 p:Src w 2 x.pA x.ps.length (aS x.ps)
 pl:x.ps.length<=1000
 t:(0<=x.at'/\x.at'<=aW)/\(0<=x.last/\x.last<=aW)/\(0<=x.BH/\x.BH<=aW)
theorem jd.kept{w w':World}{x:bD}(h:jd w x)(hk:Kept aj w w'):jd w' x:=
 ⟨h.m.kept hk (fun _ _ z=>z),h.mc,h.ml,h.o.kept hk (fun _ _ z=>z),h.e.kept hk (fun _ _ z=>z),fun y hy=>⟨(h.eo y hy).1.kept hk (fun _ _ z=>z),(h.eo y hy).2⟩,h.el,h.s.kept hk (fun _ _ z=>z),h.sl,h.so,h.p.kept hk (fun _ _ z=>z),h.pl,h.t⟩
def ae9:List (List Nat):=[[],[67,97],[101,115,102,97,108],[101,110,109,112,114,97,69],[101,110,109,112,83],[101,66],[114,97],[114,120,101,110],[114,107,97],[114,107,116,97,110],[114,107,97,102,82],[114,97],[114,110],[114,110],[114,110],[]]
def isKind(k:Int):Bool:=decide (1<=k/\k<=15)
def partsOf(k:Int):List Nat:=if 1<=k/\k<=15 then ae9.getD k.toNat []else []
def letters:List Nat:=[67,97,101,115,102,108,110,109,112,114,69,83,66,120,107,116,82]
theorem DL(k:Int):∀c∈partsOf k,c∈letters:=by
 unfold partsOf;by_cases h:1<=k/\k<=15
 ·rw[if_pos h];have:k=1\/k=2\/k=3\/k=4\/k=5\/k=6\/k=7\/k=8\/k=9\/k=10\/k=11\/k=12\/k=13\/k=14\/k=15:=by omega
  rcases this with rfl|rfl|rfl|rfl|rfl|rfl|rfl|rfl|rfl|rfl|rfl|rfl|rfl|rfl|rfl<;>decide
 ·rw[if_neg h];intro c hc;simp at hc
theorem Xi(k:Int):(partsOf k).length<=7:=by
 unfold partsOf;by_cases h:1<=k/\k<=15
 ·rw[if_pos h];have:k=1\/k=2\/k=3\/k=4\/k=5\/k=6\/k=7\/k=8\/k=9\/k=10\/k=11\/k=12\/k=13\/k=14\/k=15:=by omega
  rcases this with rfl|rfl|rfl|rfl|rfl|rfl|rfl|rfl|rfl|rfl|rfl|rfl|rfl|rfl|rfl<;>decide
 ·rw[if_neg h];decide
def lets(l:List Nat):ByteArray:=bI (oK l)
def sN(x:bD)(c:Nat):Int:=if c=101 then x.ep else if c=115 then x.aX else if c=114 then x.req else if c=110 then x.n else if c=109 then x.m else x.p
def isNum(c:Nat):Bool:=decide (c=101\/c=115\/c=114\/c=110\/c=109\/c=112)
def numAt(c:Nat):Nat:=if c=101 then 1 else if c=115 then 3 else if c=114 then 2 else if c=110 then 7 else if c=109 then 8 else 9
def fA{α:Type}(f:α->Int):List α->Int
 |[]=>0
 |a::l=>if f a=0 then fA f l else f a
theorem CO{α:Type}(f:α->Int){l:List α}{i:Nat}{a:α}(h:l[i]? =some a):fA f (l.drop i)=if f a=0 then fA f (l.drop (i+1))else f a:=by obtain⟨hi,rfl⟩:=lD0.1 h;rw[List.drop_eq_getElem_cons hi,fA]
theorem uS{α:Type}{f:α->Int}{l:List α}(h:fA f l=0):∀a∈l,f a=0:=by
 induction l with
 |nil=>intro a ha;cases ha
 |cons b l ih=>
  rw[fA]at h;by_cases hb:f b=0
  ·rw[if_pos hb]at h;intro a ha;rcases List.mem_cons.1 ha with rfl|ha
   ·exact hb
   ·exact ih h a ha
  ·rw[if_neg hb]at h;exact absurd h hb
def keyE(s:ByteArray):Int:=if s.size<1\/8<s.size then 10 else 0
def qQ(p:mW):Int:=if keyE p.key≠0 then keyE p.key else if 8<p.val.size then 3 else 0
def Hl(n:Int):Int:=if n<0\/1073741824<n then 5 else 0
def dD(x:bD)(c:Nat):Int:=
 if isNum c=true then Hl (sN x c)
 else if c=120 then (if x.e<0\/21<x.e then 1 else 0)
 else if c=107 then (if 8<x.key.size then 3 else 0)
 else if c=116 then (if 8<x.to.size then 3 else 0)
 else if c=67 then aJ.chk x.zL x.ms
 else if c=66 then Ops.chk (tX x)
 else if c=69 then (if 4<x.es.length then 6 else fA (fun y=>Ops.chk (oW y)) x.es)
 else if c=83 then (if 8<x.ss.length then 6 else 0)
 else if c=82 then (if 32<x.ps.length then 6 else fA qQ x.ps)
 else 0
def ou(x:bD):Int:=if isKind x.k=true then fA (dD x) (partsOf x.k)else 11
def Kv(ep:Int)(ms:List Mem)(fl:Int):List UInt8:=put ep.toNat++put ms.length++(ms.flatMap fun m=>put m.1.toNat++put m.2.toNat)++put fl.toNat
def kV(ep:Int)(ms:List Mem)(fl:Int):ByteArray:=if aJ.chk ep ms=0 then bI (Kv ep ms fl)else emp
def Ee(b:Batch):ByteArray:=if Ops.chk b=0 then bI (Ec b)else emp
def aaR(e:lW):List UInt8:=put e.ts.toNat++dR (bI (Ec (oW e)))
def oz(e:lW):ByteArray:=if Ops.chk (oW e)=0 then bI (aaR e)else emp
def gX(x:bD)(c:Nat):List UInt8:=
 if isNum c=true then put (sN x c).toNat
 else if c=120 then put x.e.toNat
 else if c=97 then put x.at'.toNat
 else if c=108 then put x.last.toNat
 else if c=102 then AO x.fl
 else if c=107 then dR x.key
 else if c=116 then dR x.to
 else if c=67 then dR (kV x.zL x.ms x.BH)
 else if c=66 then dR (Ee (tX x))
 else if c=69 then put x.es.length++x.es.flatMap fun y=>dR (oz y)
 else if c=83 then put x.ss.length++x.ss.flatMap fun y=>put y.toNat
 else if c=82 then put x.ps.length++x.ps.flatMap fun y=>dR y.key++dR y.val
 else []
def aaS(x:bD):List UInt8:=put x.k.toNat++(partsOf x.k).flatMap (gX x)
def Ef(x:bD):ByteArray:=if ou x=0 then bI (aaS x)else emp
theorem bH{n:Nat}(h:n<=18446744073709551615):(put n).length<=9:=nD (by omega)
theorem jO{s:ByteArray}{m:Nat}(h:s.size<=m)(hm:m<=18446744073709551615):(dR s).length<=9+m:=by have:=bH (n:=s.size) (by omega);unfold dR;rw[lA0,bP];omega
theorem oI{α β:Type}(f:α->List β)(l:List α)(M:Nat)(h:∀a∈l,(f a).length<=M):(l.flatMap f).length<=l.length*M:=by
 induction l with
 |nil=>simp
 |cons a l ih=>
  rw[List.flatMap_cons,lA0,List.length_cons];have h1:=h a (List.mem_cons_self ..);have h2:=ih fun b hb=>h b (List.mem_cons_of_mem _ hb);rw[Nat.succ_mul];omega
theorem aaT{ep:Int}{ms:List Mem}{fl:Int}(h:aJ.chk ep ms=0)(hf:0<=fl/\fl<=aW):(Kv ep ms fl).length<=99:=by
 obtain⟨h1,_,h2,h3⟩:=jf h;have a1:=bH (n:=ep.toNat) (by omega);have a2:=bH (n:=ms.length) (by omega);have a3:=bH (n:=fl.toNat) (by unfold aW at hf;omega)
 have a4:=oI (fun m:Mem=>put m.1.toNat++put m.2.toNat) ms 18 (fun m hm=>by have b1:=h3.id m hm;have b2:=h3.aX m hm;have c1:=bH (n:=m.1.toNat) (by omega);have c2:=bH (n:=m.2.toNat) (by omega);rw[lA0];omega)
 unfold Kv;rw[lA0,lA0,lA0];omega
theorem uo{ep:Int}{ms:List Mem}{fl:Int}(hf:0<=fl/\fl<=aW):(kV ep ms fl).size<=99:=by
 unfold kV;split
 ·rename_i h;have:=aaT h hf;rw[<-bP,jq];exact this
 ·decide
theorem Oy{b:Batch}(h:Ops.chk b=0):(Ec b).length<=103:=by obtain⟨h1,h2,h3,h4,h5,h6⟩:=Xc h;have hk:=Tm h6;have a1:=bH (n:=b.cl.toNat) (by omega);have a2:=bH (n:=b.req.toNat) (by omega);have a3:=bH (n:=b.ops.length) (by omega);have a4:=Og b.ops (fun o ho=>Oe (hk o ho).2.1 (hk o ho).2.2.1);unfold Ec;rw[lA0,lA0,lA0];omega
theorem Ho(b:Batch):(Ee b).size<=103:=by
 unfold Ee;split
 ·rename_i h;have:=Oy h;rw[<-bP,jq];exact this
 ·decide
theorem yV{e:lW}(h:0<=e.ts/\e.ts<=aW):(oz e).size<=121:=by
 unfold oz;split
 ·rename_i h0;have a1:=Oy h0;have a2:=jO (s:=bI (Ec (oW e))) (m:=103) (by rw[<-bP,jq];exact a1) (by omega);have a3:=bH (n:=e.ts.toNat) (by unfold aW at h;omega);rw[<-bP,jq];unfold aaR;rw[lA0];omega
 ·decide
theorem Xj{w:World}{x:bD}(h:jd w x){c:Nat}(hc:dD x c=0):(gX x c).length<=1100:=by
 unfold gX;unfold dD at hc;obtain⟨⟨t1,t2⟩,⟨t3,t4⟩,t5⟩:=h.t;unfold aW at t2 t4;by_cases c1:isNum c=true
 ·rw[if_pos c1]at hc⊢;unfold Hl at hc;by_cases hr:sN x c<0\/1073741824<sN x c
  ·rw[if_pos hr]at hc;cases hc
  ·have:=bH (n:=(sN x c).toNat) (by omega);omega
 rw[if_neg c1]at hc⊢;by_cases c2:c=120
 ·rw[if_pos c2]at hc⊢;by_cases hr:x.e<0\/21<x.e
  ·rw[if_pos hr]at hc;cases hc
  ·have:=bH (n:=x.e.toNat) (by omega);omega
 rw[if_neg c2]at hc⊢;by_cases c3:c=97
 ·rw[if_pos c3];have:=bH (n:=x.at'.toNat) (by omega);omega
 rw[if_neg c3];by_cases c4:c=108
 ·rw[if_pos c4];have:=bH (n:=x.last.toNat) (by omega);omega
 rw[if_neg c4];by_cases c5:c=102
 ·rw[if_pos c5];unfold AO;simp
 rw[if_neg c5];by_cases c6:c=107
 ·rw[if_pos c6]at hc⊢;have:=jO (s:=x.key) (m:=8) (by by_cases hr:8<x.key.size;rw[if_pos hr]at hc;cases hc;omega) (by omega);omega
 rw[if_neg c6]at hc⊢;by_cases c7:c=116
 ·rw[if_pos c7]at hc⊢;have:=jO (s:=x.to) (m:=8) (by by_cases hr:8<x.to.size;rw[if_pos hr]at hc;cases hc;omega) (by omega);omega
 rw[if_neg c7]at hc⊢;by_cases c8:c=67
 ·rw[if_pos c8]at hc⊢;have:=jO (s:=kV x.zL x.ms x.BH) (m:=99) (uo t5) (by omega);omega
 rw[if_neg c8]at hc⊢;by_cases c9:c=66
 ·rw[if_pos c9]at hc⊢;have:=jO (s:=Ee (tX x)) (m:=103) (Ho _) (by omega);omega
 rw[if_neg c9]at hc⊢;by_cases c10:c=69
 ·rw[if_pos c10]at hc⊢;by_cases hr:4<x.es.length
  ·rw[if_pos hr]at hc;cases hc
  ·have a1:=bH (n:=x.es.length) (by omega)
   have a2:=oI (fun y=>dR (oz y)) x.es 130 (fun y hy=>by have:=jO (s:=oz y) (m:=121) (yV (h.eo y hy).2) (by omega);omega)
   rw[lA0];omega
 rw[if_neg c10]at hc⊢;by_cases c11:c=83
 ·rw[if_pos c11]at hc⊢;by_cases hr:8<x.ss.length
  ·rw[if_pos hr]at hc;cases hc
  ·have a1:=bH (n:=x.ss.length) (by omega)
   have a2:=oI (fun y:Int=>put y.toNat) x.ss 9 (fun y hy=>by have b:=h.so y hy;unfold aW at b;exact bH (by omega))
   rw[lA0];omega
 rw[if_neg c11]at hc⊢;by_cases c12:c=82
 ·rw[if_pos c12]at hc⊢;by_cases hr:32<x.ps.length
  ·rw[if_pos hr]at hc;cases hc
  ·rw[if_neg hr]at hc;have hz:=uS hc;have a1:=bH (n:=x.ps.length) (by omega)
   have a2:=oI (fun y:mW=>dR y.key++dR y.val) x.ps 34 (fun y hy=>by
    have hy0:=hz y hy;unfold qQ keyE at hy0;by_cases e1:y.key.size<1\/8<y.key.size
    ·rw[if_pos e1,if_pos (by decide)]at hy0;cases hy0
    ·rw[if_neg e1,if_neg (by decide)]at hy0;have b1:=jO (s:=y.key) (m:=8) (by omega) (by omega);have b2:=jO (s:=y.val) (m:=8) (by by_cases e2:8<y.val.size;rw[if_pos e2]at hy0;cases hy0;omega) (by omega);rw[lA0];omega)
   rw[lA0];omega
 rw[if_neg c12];simp
end gu
namespace aJ
theorem Eg{l:List Mem}{i:Nat}{m:Mem}(h:l[i]? =some m)(h0:pF m (l.take i)=0):kH (l.take i) (l.drop i)=kH (l.take (i+1)) (l.drop (i+1)):=by
 rw[drop_cons h,take_snoc h];conv=>lhs;unfold kH
 rw[if_pos h0]
theorem Eh{l:List Mem}{i:Nat}{m:Mem}(h:l[i]? =some m)(h0:pF m (l.take i)≠0):kH (l.take i) (l.drop i)=pF m (l.take i):=by rw[drop_cons h];unfold kH;rw[if_neg h0]
def DN(a b:List Mem):Bool:=decide (a=b)
theorem aea{a b:List Mem}(h:a.length≠b.length):DN a b=false:=by unfold DN;rw[decide_eq_false];rintro rfl;exact h rfl
theorem aaU{a b:List Mem}{i:Nat}{x y:Mem}(ha:a[i]? =some x)(hb:b[i]? =some y):DN (a.drop i) (b.drop i)=(decide (x=y)&&DN (a.drop (i+1)) (b.drop (i+1))):=by
 unfold DN;rw[drop_cons ha,drop_cons hb];by_cases h:x=y
 ·subst h;simp
 ·simp[h]
end aJ
namespace aJ
def dw(b:Nat)(w:World)(A:Option Addr)(n c:Nat)(l:List Mem):Prop:=
 n=l.length/\w.ownsRow 0 56 2 (.slice A n c) n (aU l)/\∀k,(Value.slice A n c).ownBlock=some k->b<=k
theorem dw.nil(b:Nat)(w:World):dw b w none 0 0 []:=⟨rfl,⟨rfl,.inl ⟨rfl,rfl⟩⟩,fun k hk=>by cases hk⟩
theorem dw.kept{b:Nat}{w w':World}{A:Option Addr}{n c:Nat}{l:List Mem}(h:dw b w A n c l)(hk:Kept aj w w'):dw b w' A n c l:=
 ⟨h.1,aC h.2.1 hk (fun _ _ x=>x),h.2.2⟩
theorem dw.src{b:Nat}{w:World}{A:Option Addr}{n c:Nat}{l:List Mem}(h:dw b w A n c l):Src w 2 A l.length (aU l):=by have h1:=Src.bF h.2.1;rw[h.1]at h1;exact h1
theorem dw.snoc{b:Nat}{w w':World}{A A':Option Addr}{n c c':Nat}{l:List Mem}{m:Mem}(h:dw b w A n c l)(hb:b<=w.heap.size)
  (ho:w'.ownsRow 0 56 2 (.slice A' (n+1) c') (n+1) (aU l++[.int .i64 m.1,.int .i64 m.2]))
  (ha:(Value.slice A' (n+1) c').ownBlock=(Value.slice A n c).ownBlock\/(Value.slice A' (n+1) c').ownBlock=some w.heap.size):dw b w' A' (n+1) c' (l++[m]):=by
 refine⟨by rw[h.1];simp,by rw[xX];exact ho,fun k hk=> ?_⟩;rcases ha with e|e
 ·exact h.2.2 k (e.symm.trans hk)
 ·rw[hk]at e;injection e with e;omega
theorem Gp{l:List Mem}{i:Nat}{m:Mem}(p:Mem->Bool)(h:l[i]? =some m):(l.take (i+1)).filter p=(l.take i).filter p++if p m=true then [m]else []:=by rw[take_snoc h,List.filter_append];by_cases hp:p m=true<;>simp[hp]
theorem UC{l:List Mem}{i:Nat}{m:Mem}{p:Mem->Bool}(h:l[i]? =some m)(hp:p m=true):(l.take (i+1)).filter p=(l.take i).filter p++[m]:=by rw[Gp p h,if_pos hp]
theorem Xk{l:List Mem}{i:Nat}{m:Mem}{p:Mem->Bool}(h:l[i]? =some m)(hp:p m=false):(l.take (i+1)).filter p=(l.take i).filter p:=by rw[Gp p h,if_neg (by rw[hp];decide),List.append_nil]
theorem UD(g t:List Int)(m:Mem):isFirst g t m=(!inB g m.1&&inB t m.1):=rfl
theorem Xl(g t:List Int)(m:Mem):wZ g t m=(!inB g m.1&& !inB t m.1):=rfl

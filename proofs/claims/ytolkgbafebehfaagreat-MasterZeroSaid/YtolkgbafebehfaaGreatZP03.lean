/- Part 4 of what the proof needs. -/
import Derived.Test.YtolkgbafebehfaaGreatZP02
set_option linter.unusedSimpArgs false
set_option linter.unusedVariables false
set_option maxHeartbeats 32000000
set_option maxRecDepth 100000
namespace Go.Proofs.YtolkgbafebehfaaGreat
namespace aP
abbrev Mem:=Int×Int
def mZ(m:Mem)(a:List Mem):Int:=
 if m.1<0\/4<=m.1 then 1 else if m.2<1\/1073741824<m.2 then 5 else if a.any (fun x=>decide (x.1=m.1))then 18 else 0
def jl:List Mem->List Mem->Int
 |_,[]=>0
 |a,m::r=>if mZ m a=0 then jl (a++[m]) r else mZ m a
def chk(ep:Int)(l:List Mem):Int:=
 if ep<1\/1073741824<ep then 5 else if l.length=0 then 7 else if 4<l.length then 6 else jl [] l
def iY(l:List Mem)(m:Mem):List Mem:=if l.length<4/\chk 1 [m]=0/\l.any (fun x=>decide (x.1=m.1))=false then l++[m]else l
def dV(l:List Mem)(j:List Mem):List Mem:=j.foldl iY l
def isFirst(g t:List Int)(m:Mem):Bool:= !g.contains m.1&&t.contains m.1
def uh(g t:List Int)(m:Mem):Bool:= !g.contains m.1&& !t.contains m.1
def firsts(c:List Mem)(t g:List Int):List Mem:=c.filter (isFirst g t)
def rests(c:List Mem)(t g:List Int):List Mem:=c.filter (uh g t)
def allOf(c:List Mem)(t g:List Int)(j:List Mem):List Mem:=dV (firsts c t g++rests c t g) j
def aT:Int:=18446744073709551615
def kG(f last:Int):Int:=if last=aT then aT else max f (last+1)
def ids(l:List Mem):List Int:=(l.map (·.1)).mergeSort fun a b=>decide (a<=b)
structure Next where
 e:Int
 ep:Int
 l:List Mem
 fl:Int
 t:List Int
def fH(ep:Int)(c:List Mem)(fl:Int)(t g:List Int)(j:List Mem)(last:Int):Next:=
 if chk ep c≠0 then ⟨chk ep c,0,[],0,[]⟩
 else if firsts c t g=[]then ⟨7,0,[],0,[]⟩
 else if allOf c t g j=c then ⟨20,0,[],0,[]⟩
 else if 1073741824<=ep then ⟨5,0,[],0,[]⟩
 else⟨0,ep+1,allOf c t g j,kG fl last,ids (firsts c t g)⟩
structure Good(l:List Mem):Prop where
 id:∀m∈l,0<=m.1/\m.1<4
 aV:∀m∈l,1<=m.2/\m.2<=1073741824
 nd:(l.map (·.1)).Nodup
theorem QH{m:Mem}{a:List Mem}(h:mZ m a=0):(0<=m.1/\m.1<4)/\(1<=m.2/\m.2<=1073741824)/\∀x∈a,x.1≠m.1:=by
 unfold mZ at h
 split at h
 ·cases h
 ·split at h
  ·cases h
  ·split at h
   ·cases h
   ·rename_i h1 h2 h3
    refine⟨by omega,by omega,fun x hx e=>h3 ?_⟩
    simp only[List.any_eq_true,decide_eq_true_eq]
    exact⟨x,hx,e⟩
theorem Zm{m:Mem}{a:List Mem}(h1:0<=m.1/\m.1<4)(h2:1<=m.2/\m.2<=1073741824)(h3:∀x∈a,x.1≠m.1):mZ m a=0:=by
 unfold mZ
 rw[if_neg (by omega),if_neg (by omega),if_neg]
 simp only[List.any_eq_true,decide_eq_true_eq,not_exists,not_and]
 exact h3
theorem IJ{r:List Mem}:∀{a:List Mem},Good a->jl a r=0->Good (a++r):=by
 induction r with
 |nil=>intro a h _;simpa using h
 |cons m r ih=>
  intro a h hc
  unfold jl at hc
  split at hc
  ·rename_i h0
   obtain⟨h1,h2,h3⟩:=QH h0
   have hg:Good (a++[m]):=by
    refine⟨?_,?_,?_⟩
    ·intro x hx
     rcases List.mem_append.1 hx with hx|hx
     ·exact h.id x hx
     ·obtain rfl:=List.mem_singleton.1 hx;exact h1
    ·intro x hx
     rcases List.mem_append.1 hx with hx|hx
     ·exact h.aV x hx
     ·obtain rfl:=List.mem_singleton.1 hx;exact h2
    ·rw[List.map_append,List.nodup_append]
     refine⟨h.nd,by simp,?_⟩
     intro x hx y hy e
     obtain⟨z,hz,rfl⟩:=List.mem_map.1 hx
     simp at hy
     exact h3 z hz (e.trans hy)
   have:=ih hg hc
   simpa using this
  ·rename_i h0
   exact absurd hc h0
theorem Oq{r:List Mem}:∀{a:List Mem},Good (a++r)->jl a r=0:=by
 induction r with
 |nil=>intro a _;rfl
 |cons m r ih=>
  intro a h
  unfold jl
  have h0:mZ m a=0:=by
   refine Zm (h.id m (by simp)) (h.aV m (by simp)) fun x hx e=> ?_
   have:=h.nd
   rw[List.map_append,List.nodup_append]at this
   exact this.2.2 x.1 (List.mem_map.2 ⟨x,hx,rfl⟩) m.1 (by simp) e
  rw[if_pos h0]
  exact ih (by simpa using h)
theorem Vw:Good []:=⟨by simp,by simp,by simp⟩
theorem kH{ep:Int}{l:List Mem}(h:chk ep l=0):(1<=ep/\ep<=1073741824)/\l≠[]/\l.length<=4/\Good l:=by
 unfold chk at h
 split at h
 ·cases h
 ·split at h
  ·cases h
  ·split at h
   ·cases h
   ·rename_i h1 h2 h3
    refine⟨by omega,?_,by omega,by simpa using IJ Vw h⟩
    rintro rfl
    exact h2 rfl
theorem QI{ep:Int}{l:List Mem}(h1:1<=ep/\ep<=1073741824)(h2:l≠[])(h3:l.length<=4)(h4:Good l):chk ep l=0:=by
 unfold chk
 rw[if_neg (by omega),if_neg (by intro e;exact h2 (List.eq_nil_of_length_eq_zero e)),if_neg (by omega)]
 exact Oq (by simpa using h4)
theorem Vx{m:Mem}:chk 1 [m]=0↔(0<=m.1/\m.1<4)/\(1<=m.2/\m.2<=1073741824):=by
 constructor
 ·intro h
  have hg:=(kH h).2.2.2
  exact⟨hg.id m (by simp),hg.aV m (by simp)⟩
 ·intro h
  exact QI (by omega) (by simp) (by simp) ⟨by intro x hx;obtain rfl:=List.mem_singleton.1 hx;exact h.1,by intro x hx;obtain rfl:=List.mem_singleton.1 hx;exact h.2,by simp⟩
theorem xP{l:List Mem}(h:Good l)(p:Mem->Bool):Good (l.filter p):=
 ⟨fun m hm=>h.id m (List.mem_filter.1 hm).1,fun m hm=>h.aV m (List.mem_filter.1 hm).1,h.nd.sublist (List.filter_sublist.map _)⟩
theorem QJ{l:List Mem}(h:(l.map (·.1)).Nodup){x y:Mem}(hx:x∈l)(hy:y∈l)(e:x.1=y.1):x=y:=by
 induction l with
 |nil=>cases hx
 |cons a l ih=>
  rw[List.map_cons,List.nodup_cons]at h
  rcases List.mem_cons.1 hx with rfl|hx'
  ·rcases List.mem_cons.1 hy with rfl|hy'
   ·rfl
   ·exact absurd (List.mem_map.2 ⟨y,hy',e.symm⟩) h.1
  ·rcases List.mem_cons.1 hy with rfl|hy'
   ·exact absurd (List.mem_map.2 ⟨x,hx',e⟩) h.1
   ·exact ih h.2 hx' hy'
theorem Vy{l:List Mem}(h:Good l)(g t:List Int):Good (firsts l t g++rests l t g):=by
 refine⟨?_,?_,?_⟩
 ·intro m hm
  rcases List.mem_append.1 hm with hm|hm
  ·exact h.id m (List.mem_filter.1 hm).1
  ·exact h.id m (List.mem_filter.1 hm).1
 ·intro m hm
  rcases List.mem_append.1 hm with hm|hm
  ·exact h.aV m (List.mem_filter.1 hm).1
  ·exact h.aV m (List.mem_filter.1 hm).1
 ·rw[List.map_append,List.nodup_append]
  refine⟨(xP h _).nd,(xP h _).nd,?_⟩
  intro x hx y hy e
  obtain⟨a,ha,rfl⟩:=List.mem_map.1 hx
  obtain⟨b,hb,rfl⟩:=List.mem_map.1 hy
  have ha':=List.mem_filter.1 ha
  have hb':=List.mem_filter.1 hb
  obtain rfl:=QJ h.nd ha'.1 hb'.1 e
  have h1:=ha'.2
  have h2:=hb'.2
  unfold isFirst at h1
  unfold uh at h2
  simp at h1 h2
  exact h2.2 h1.2
theorem BM(l:List Mem)(g t:List Int):(firsts l t g++rests l t g).length<=l.length:=by
 unfold firsts rests
 rw[List.length_append]
 induction l with
 |nil=>simp
 |cons m l ih=>
  rw[List.filter_cons,List.filter_cons]
  have:¬(isFirst g t m=true/\uh g t m=true):=by
   unfold isFirst uh
   cases t.contains m.1<;>simp
  split<;>split<;>simp_all<;>omega
theorem IK{l:List Mem}(h:Good l)(hl:l.length<=4)(m:Mem):Good (iY l m)/\(iY l m).length<=4:=by
 unfold iY
 split
 ·rename_i hc
  obtain⟨h1,h2,h3⟩:=hc
  obtain⟨h4,h5⟩:=Vx.1 h2
  refine⟨⟨?_,?_,?_⟩,by simp;omega⟩
  ·intro x hx
   rcases List.mem_append.1 hx with hx|hx
   ·exact h.id x hx
   ·obtain rfl:=List.mem_singleton.1 hx;exact h4
  ·intro x hx
   rcases List.mem_append.1 hx with hx|hx
   ·exact h.aV x hx
   ·obtain rfl:=List.mem_singleton.1 hx;exact h5
  ·rw[List.map_append,List.nodup_append]
   refine⟨h.nd,by simp,?_⟩
   intro x hx y hy e
   obtain⟨z,hz,rfl⟩:=List.mem_map.1 hx
   simp at hy
   have hn:¬(l.any fun x=>decide (x.1=m.1))=true:=by rw[h3];simp
   exact hn (List.any_eq_true.2 ⟨z,hz,by simp[e.trans hy]⟩)
 ·exact⟨h,hl⟩
theorem IL(j:List Mem):∀{l:List Mem},Good l->l.length<=4->Good (dV l j)/\(dV l j).length<=4:=by
 induction j with
 |nil=>intro l h hl;exact⟨h,hl⟩
 |cons m j ih=>
  intro l h hl
  obtain⟨h1,h2⟩:=IK h hl m
  exact ih h1 h2
theorem E7(j:List Mem):∀(l:List Mem),∃r,dV l j=l++r/\∀m∈r,m∈j:=by
 induction j with
 |nil=>intro l;exact⟨[],by simp[dV],by simp⟩
 |cons m j ih=>
  intro l
  have e:dV l (m::j)=dV (iY l m) j:=rfl
  obtain⟨r,hr,hm⟩:=ih (iY l m)
  rw[e,hr]
  unfold iY
  split
  ·exact⟨m::r,by simp,by intro x hx;rcases List.mem_cons.1 hx with rfl|hx;exact List.mem_cons_self;exact List.mem_cons_of_mem _ (hm x hx)⟩
  ·exact⟨r,rfl,fun x hx=>List.mem_cons_of_mem _ (hm x hx)⟩
theorem IP(l j:List Mem)(m:Mem):dV l (j++[m])=iY (dV l j) m:=by simp[dV]
def E8(l:List Mem):List Int:=([0,1,2,3]:List Int).flatMap fun i=>(l.filter fun m=>decide (m.1=i)).map (·.1)
theorem Zn{l:List Mem}(h:∀m∈l,0<=m.1/\m.1<4):E8 l=ids l:=by
 have hp:(E8 l).Perm (l.map (·.1)):=by
  have e:E8 l=([0,1,2,3]:List Int).flatMap fun i=>(l.map (·.1)).filter fun x=>decide (x=i):=by
   unfold E8
   congr 1
   funext i
   rw[List.filter_map]
   rfl
  rw[e]
  have ha:∀x∈l.map (·.1),0<=x/\x<4:=by
   intro x hx
   obtain⟨m,hm,rfl⟩:=List.mem_map.1 hx
   exact h m hm
  rw[List.perm_iff_count]
  intro x
  simp only[List.flatMap_cons,List.flatMap_nil,List.count_append,List.append_nil]
  have hc:∀i:Int,List.count x ((l.map (·.1)).filter fun y=>decide (y=i))=if x=i then List.count x (l.map (·.1))else 0:=by
   intro i
   split
   ·rename_i e
    subst e
    rw[List.count_filter (by simp)]
   ·rename_i e
    refine List.count_eq_zero.2 fun hx=> ?_
    have:=(List.mem_filter.1 hx).2
    simp at this
    exact e this
  rw[hc,hc,hc,hc]
  by_cases hx:x∈l.map (·.1)
  ·have:=ha x hx
   have h4:x=0\/x=1\/x=2\/x=3:=by omega
   rcases h4 with rfl|rfl|rfl|rfl<;>simp
  ·rw[List.count_eq_zero.2 hx]
   simp
 have hs:(E8 l).Pairwise fun a b=>a<=b:=by
  unfold E8
  have hi:∀(i:Int),∀x∈(l.filter fun m=>decide (m.1=i)).map (·.1),x=i:=by
   intro i x hx
   obtain⟨m,hm,rfl⟩:=List.mem_map.1 hx
   simpa using(List.mem_filter.1 hm).2
  have hpi:∀(i:Int),((l.filter fun m=>decide (m.1=i)).map (·.1)).Pairwise fun a b=>a<=b:=by
   intro i
   rw[List.pairwise_iff_forall_sublist]
   intro a b hab
   have h1:=hi i a (hab.subset (by simp))
   have h2:=hi i b (hab.subset (by simp))
   omega
  simp only[List.flatMap_cons,List.flatMap_nil,List.append_nil]
  refine List.pairwise_append.2 ⟨hpi 0,List.pairwise_append.2 ⟨hpi 1,List.pairwise_append.2 ⟨hpi 2,hpi 3,?_⟩,?_⟩,?_⟩
  ·intro a ha b hb
   have:=hi _ a ha
   have:=hi _ b hb
   omega
  ·intro a ha b hb
   have:=hi _ a ha
   rcases List.mem_append.1 hb with hb|hb<;>(have:=hi _ b hb;omega)
  ·intro a ha b hb
   have:=hi _ a ha
   rcases List.mem_append.1 hb with hb|hb
   ·have:=hi _ b hb;omega
   ·rcases List.mem_append.1 hb with hb|hb<;>(have:=hi _ b hb;omega)
 have hm:(ids l).Pairwise fun a b=>a<=b:=by
  have:=List.pairwise_mergeSort (le:=fun a b:Int=>decide (a<=b)) (by intro a b c;simp;omega) (by intro a b;simp;omega) (l.map (·.1))
  exact this.imp fun h=>by simpa using h
 exact List.Perm.eq_of_pairwise (fun a b _ _ h1 h2=>by omega) hs hm (hp.trans (List.mergeSort_perm _ _).symm)
theorem BN{l:List Mem}{x:Int}:x∈ids l↔∃m∈l,m.1=x:=by
 unfold ids
 rw[List.mem_mergeSort,List.mem_map]
theorem E9(l:List Mem):(ids l).length=l.length:=by simp[ids]
theorem IQ{l:List Mem}(h:(l.map (·.1)).Nodup):(ids l).Pairwise fun a b=>a<b:=by
 have hs:(ids l).Pairwise fun a b=>a<=b:=by
  have:=List.pairwise_mergeSort (le:=fun a b:Int=>decide (a<=b)) (by intro a b c;simp;omega) (by intro a b;simp;omega) (l.map (·.1))
  exact this.imp fun h=>by simpa using h
 have hn:(ids l).Nodup:=(List.mergeSort_perm _ _).nodup_iff.2 h
 exact hs.imp₂ (fun a b h1 h2=>by omega) hn
structure Is(ep:Int)(c:List Mem)(fl:Int)(t g:List Int)(j:List Mem)(last:Int)(d:Next):Prop where
 Ot:chk ep c=0
 epv:d.ep=ep+1
 acv:ep<1073741824
 lv:d.l=allOf c t g j
 flv:d.fl=kG fl last
 tv:d.t=ids (firsts c t g)
 ne:firsts c t g≠[]
theorem BO{ep:Int}{c:List Mem}{fl:Int}{t g:List Int}{j:List Mem}{last:Int}(h:(fH ep c fl t g j last).e=0):Is ep c fl t g j last (fH ep c fl t g j last):=by
 unfold fH at h⊢
 split at h
 ·rename_i hc;exact absurd h hc
 ·rename_i hc
  split at h
  ·cases h
  ·rename_i hf
   split at h
   ·cases h
   ·rename_i ha
    split at h
    ·cases h
    ·rename_i he
     rw[if_neg hc,if_neg hf,if_neg ha,if_neg he]
     exact⟨by simpa using hc,rfl,by omega,rfl,rfl,rfl,hf⟩
theorem Vz{ep:Int}{c:List Mem}{fl:Int}{t g:List Int}{j:List Mem}{last:Int}(h:(fH ep c fl t g j last).e≠0):(fH ep c fl t g j last).ep=0/\(fH ep c fl t g j last).l=[]/\(fH ep c fl t g j last).fl=0/\(fH ep c fl t g j last).t=[]:=by
 unfold fH at h⊢
 split
 ·exact⟨rfl,rfl,rfl,rfl⟩
 ·split
  ·exact⟨rfl,rfl,rfl,rfl⟩
  ·split
   ·exact⟨rfl,rfl,rfl,rfl⟩
   ·split
    ·exact⟨rfl,rfl,rfl,rfl⟩
    ·rename_i h1 h2 h3 h4
     rw[if_neg h1,if_neg h2,if_neg h3,if_neg h4]at h
     exact absurd rfl h
section
variable{ep:Int}{c:List Mem}{fl:Int}{t g:List Int}{j:List Mem}{last:Int}{d:Next}
theorem Is.form(h:Is ep c fl t g j last d):∃r,d.l=firsts c t g++(rests c t g++r)/\(∀m∈r,m∈j)/\Good d.l/\d.l.length<=4:=by
 obtain⟨h1,h2,h3,h4⟩:=kH h.Ot
 obtain⟨r,hr,hm⟩:=E7 j (firsts c t g++rests c t g)
 have hg:=IL j (Vy h4 g t) (Nat.le_trans (BM c g t) h3)
 refine⟨r,by rw[h.lv];unfold allOf;rw[hr,List.append_assoc],hm,?_⟩
 rw[h.lv]
 exact hg
theorem Is.chk(h:Is ep c fl t g j last d):aP.chk d.ep d.l=0:=by
 obtain⟨h1,h2,h3,h4⟩:=kH h.Ot
 obtain⟨r,hr,hm,hg,hl⟩:=h.form
 refine QI (by have:=h.acv;rw[h.epv];omega) ?_ hl hg
 rw[hr]
 intro e
 exact h.ne (List.append_eq_nil_iff.1 e).1
theorem Is.yR(h:Is ep c fl t g j last d):d.t.Pairwise fun a b=>a<b:=by
 obtain⟨h1,h2,h3,h4⟩:=kH h.Ot
 rw[h.tv]
 exact IQ (xP h4 _).nd
theorem Is.again(h:Is ep c fl t g j last d):fH d.ep d.l d.fl d.t [] [] last=⟨20,0,[],0,[]⟩:=by
 obtain⟨r,hr,_,hg,_⟩:=h.form
 have hfirst:firsts d.l d.t []=firsts c t g:=by
  unfold firsts
  have e1:∀m∈d.l,isFirst [] d.t m=true↔m∈firsts c t g:=by
   intro m hm
   unfold isFirst
   simp only[List.contains_nil,Bool.not_false,Bool.true_and,List.contains_iff_mem]
   rw[h.tv,BN]
   constructor
   ·rintro⟨x,hx,e⟩
    obtain rfl:x=m:=QJ hg.nd (by rw[hr];exact List.mem_append_left _ hx) hm e
    exact hx
   ·intro hx
    exact⟨m,hx,rfl⟩
  have hnd:d.l.Nodup:=by
   have:=hg.nd
   rw[List.nodup_iff_pairwise_ne,List.pairwise_map]at this
   rw[List.nodup_iff_pairwise_ne]
   exact this.imp fun h e=>h (by rw[e])
  generalize isFirst [] d.t=p at e1
  rw[hr]at e1 hnd⊢
  rw[List.filter_append]
  have e2:(firsts c t g).filter p=firsts c t g:=List.filter_eq_self.2 fun m hm=>(e1 m (List.mem_append_left _ hm)).2 hm
  have e3:(rests c t g++r).filter p=[]:=by
   rw[List.filter_eq_nil_iff]
   intro m hm hp
   have:=(e1 m (List.mem_append_right _ hm)).1 hp
   rw[List.nodup_append]at hnd
   exact hnd.2.2 m this m hm rfl
  show List.filter p (firsts c t g)++_=_
  rw[e2,e3,List.append_nil]
  rfl
 have hrest:rests d.l d.t []=rests c t g++r:=by
  have e4:rests d.l d.t []=d.l.filter fun m=> !isFirst [] d.t m:=by
   unfold rests
   congr 1
  have e5:firsts d.l d.t []=d.l.filter (isFirst [] d.t):=rfl
  rw[hfirst]at e5
  have e1:∀m∈d.l,isFirst [] d.t m=true↔m∈firsts c t g:=by
   intro m hm
   rw[e5,List.mem_filter]
   exact⟨fun h=>⟨hm,h⟩,fun h=>h.2⟩
  have hnd:d.l.Nodup:=by
   have:=hg.nd
   rw[List.nodup_iff_pairwise_ne,List.pairwise_map]at this
   rw[List.nodup_iff_pairwise_ne]
   exact this.imp fun h e=>h (by rw[e])
  rw[e4]
  generalize isFirst [] d.t=p at e1
  rw[hr]at e1 hnd⊢
  rw[List.filter_append]
  have e2:(firsts c t g).filter (fun m=> !p m)=[]:=by
   rw[List.filter_eq_nil_iff]
   intro m hm hp
   rw[(e1 m (List.mem_append_left _ hm)).2 hm]at hp
   cases hp
  have e3:(rests c t g++r).filter (fun m=> !p m)=rests c t g++r:=List.filter_eq_self.2 fun m hm=>by
   rw[Bool.not_eq_true',Bool.eq_false_iff]
   intro hp
   have:=(e1 m (List.mem_append_right _ hm)).1 hp
   rw[List.nodup_append]at hnd
   exact hnd.2.2 m this m hm rfl
  rw[e2,e3,List.nil_append]
 unfold fH
 rw[if_neg (by simp[h.chk]),if_neg (by rw[hfirst];exact h.ne),if_pos]
 unfold allOf dV
 rw[hfirst,hrest,hr]
 rfl
end
end aP
end Go.Proofs.YtolkgbafebehfaaGreat
namespace Go.Proofs.YtolkgbafebehfaaGreat
open Go.RowKit
set_option maxRecDepth 100000
namespace aP
abbrev BP(m:Mem):List Value:=[.int .i64 m.1,.int .i64 m.2]
abbrev aS(l:List Mem):List Value:=l.flatMap BP
abbrev iJ(m:Mem):Value:=.agg #[.int .i64 m.1,.int .i64 m.2]
abbrev ints(l:List Int):List Value:=l.map (Value.int .i64)
theorem zG(a b:List Mem):aS (a++b)=aS a++aS b:=by simp[aS]
theorem xQ(a:List Mem)(k:Nat):(aS a).take (k*2)=aS (a.take k):=by
 induction a generalizing k with
 |nil=>simp[aS]
 |cons x a ih=>
  cases k with
  |zero=>simp[aS]
  |succ k=>
   have e:(k+1)*2=k*2+1+1:=by omega
   show(Value.int .i64 x.1::Value.int .i64 x.2::aS a).take ((k+1)*2)=Value.int .i64 x.1::Value.int .i64 x.2::aS (a.take k)
   rw[e]
   simp[ih]
theorem ig{w:World}{A:Option Addr}{m:Nat}{l:List Mem}(h:Src w 2 A m (aS l))(hm:0<m)(i:Nat)(p:Mem)(hp:l[i]? =some p):
  ∃ad,A=some ad/\ad.block<w.heap.size/\w.cell? (ad.add (i*2))=some (.int .i64 p.1)/\w.cell? ⟨(ad.add (i*2)).block,(ad.add (i*2)).off+1,none⟩=some (.int .i64 p.2):=by
 obtain⟨ad,rfl,had,hcell⟩:=h.2 hm
 have k0:(aS l)[i*2]? =some (.int .i64 p.1):=by
  rw[flat_get BP 2 (by decide) (fun _=>rfl),show i*2/2=i by omega,show i*2%2=0 by omega,hp];rfl
 have k1:(aS l)[i*2+1]? =some (.int .i64 p.2):=by
  rw[flat_get BP 2 (by decide) (fun _=>rfl),show(i*2+1)/2=i by omega,show(i*2+1)%2=1 by omega,hp];rfl
 refine⟨ad,rfl,had,hcell _ _ k0,?_⟩
 rw[<-add_lit _ (by omega),add_add];exact hcell _ _ k1
theorem o7{w:World}{A:Option Addr}{m:Nat}{l:List Int}(h:Src w 1 A m (ints l))(hm:0<m)(i:Nat)(x:Int)(hx:l[i]? =some x):
  ∃ad,A=some ad/\ad.block<w.heap.size/\w.cell? (ad.add i)=some (.int .i64 x):=by
 obtain⟨ad,rfl,had,hcell⟩:=h.2 hm
 exact⟨ad,rfl,had,hcell i _ (by simp[hx])⟩
theorem Lr(p q:Mem)(W:World):(binOp .eql 53 (iJ p) (iJ q)).run Tryz.prog W=.ok (.bool (decide (p=q))) W:=by
 obtain⟨p1,p2⟩:=p
 obtain⟨q1,q2⟩:=q
 by_cases h1:p1=q1<;>by_cases h2:p2=q2<;>simp[go_sem,h1,h2]
theorem Ls(p q:Mem)(W:World):(binOp .neq 53 (iJ p) (iJ q)).run Tryz.prog W=.ok (.bool (decide (p≠q))) W:=by
 obtain⟨p1,p2⟩:=p
 obtain⟨q1,q2⟩:=q
 by_cases h1:p1=q1<;>by_cases h2:p2=q2<;>simp[go_sem,h1,h2]
theorem drop_cons{α:Type}{l:List α}{i:Nat}{a:α}(h:l[i]? =some a):l.drop i=a::l.drop (i+1):=by
 obtain⟨hl,rfl⟩:=List.getElem?_eq_some_iff.1 h
 exact List.drop_eq_getElem_cons hl
theorem take_snoc{α:Type}{l:List α}{i:Nat}{a:α}(h:l[i]? =some a):l.take (i+1)=l.take i++[a]:=by
 rw[List.take_add_one,h];rfl
theorem ng:Elem Tryz.prog 22 53 2 16:=
 by
 obtain⟨i0,hi,hz0,hz1,hz2⟩:=info_parts (show(Tryz.prog.info? 53).map (fun i=>(i.zero,i.size,i.bytes))=some (some (.agg #[.int .i64 0,.int .i64 0]),2,16) by kernel_rfl)
 exact⟨Tryz.underlying22,⟨i0,_,hi,hz0,hz1,hz2,rfl⟩,by decide⟩
theorem jF:Elem Tryz.prog 36 3 1 8:=
 by
 obtain⟨i0,hi,hz0,hz1,hz2⟩:=info_parts (show(Tryz.prog.info? 3).map (fun i=>(i.zero,i.size,i.bytes))=some (some (.int .i64 0),1,8) by kernel_rfl)
 exact⟨Tryz.underlying36,⟨i0,_,hi,hz0,hz1,hz2,rfl⟩,by decide⟩
theorem Nq(l:List Mem):∀u∈aS l,u.oneCell'=true:=by
 intro u hu
 obtain⟨m,_,hm⟩:=List.mem_flatMap.1 hu
 simp[BP]at hm
 rcases hm with rfl|rfl<;>rfl
end aP
namespace aP
abbrev mP(ep:Int)(A:Option Addr)(n c:Nat)(fl:Int):Value:=.agg #[.int .i64 ep,.slice A n c,.int .u64 fl]
def inB(l:List Int)(x:Int):Bool:=l.contains x
def dZ(l:List Mem)(x:Int):Bool:=l.any fun m=>decide (m.1=x)
theorem D3(a b M:Int)(h:max a b=M)(W:World)(ts:Array TypeId)(t:TypeId):(Builtin.max_ ts t #[.int .u64 a,.int .u64 b]).run Tryz.prog W=.ok (.int .u64 M) W:=by
 rw[run_max_int2]
 split
 ·rw[show M=b by omega]
 ·rw[show M=a by omega]
theorem abV(w:World)(f last:Int)(hf:0<=f/\f<=aT)(h:0<=last/\last<=aT):
  Calls Tryz.prog 282 #[.int .u64 f,.int .u64 last] w fun e w'=>e=.returned (.int .u64 (kG f last))/\w=w':=by
 unfold aT at hf h
 by_cases hm:last=18446744073709551615
 ·have hr:kG f last=18446744073709551615:=by unfold kG aT;rw[if_pos hm]
  have HR:=ah hr;clear hr
  have hmx:=D3 f last 18446744073709551615 (by omega)
  have hlt:¬last<18446744073709551615:=by omega
  clear hm
  go_enter Tryz.func282,Tryz.ntmps282
  go_wp2
  go_ret
  exact⟨by rw[HR.out];rfl,rfl⟩
 ·have hr:kG f last=max f (last+1):=by unfold kG aT;rw[if_neg hm]
  obtain⟨M,hM⟩:∃M,max f (last+1)=M:=⟨_,rfl⟩
  rw[hM]at hr
  have HR:=ah hr;clear hr
  have hmx:=D3 f (last+1) M hM
  have hlt:last<18446744073709551615:=by omega
  clear hm hM
  go_enter Tryz.func282,Tryz.ntmps282
  go_wp2
  go_ret
  exact⟨by rw[HR.out];rfl,rfl⟩
theorem Ou(w:World)(f last:Int)(hf:0<=f/\f<=aT)(h:0<=last/\last<=aT):
  Calls Tryz.prog 260 #[.int .u64 f,.int .u64 last] w fun e w'=>e=.returned (.int .u64 (kG f last))/\w=w':=by
 unfold aT at hf h
 by_cases hm:last=18446744073709551615
 ·have hr:kG f last=18446744073709551615:=by unfold kG aT;rw[if_pos hm]
  have HR:=ah hr;clear hr
  subst hm
  go_enter Tryz.func260,Tryz.ntmps260
  go_wp2
  go_ret
  exact⟨by rw[HR.out];rfl,rfl⟩
 ·have hr:kG f last=max f (last+1):=by unfold kG aT;rw[if_neg hm]
  obtain⟨M,hM⟩:∃M,max f (last+1)=M:=⟨_,rfl⟩
  rw[hM]at hr
  have HR:=ah hr;clear hr
  have hmx:=D3 f (last+1) M hM
  have hlt:last<18446744073709551615:=by omega
  have hne:(last==18446744073709551615)=false:=by simpa using hm
  clear hm hM
  go_enter Tryz.func260,Tryz.ntmps260
  go_wp2
  go_ret
  exact⟨by rw[HR.out];rfl,rfl⟩
end aP
end Go.Proofs.YtolkgbafebehfaaGreat

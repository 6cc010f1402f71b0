/- Part 17. -/
import Derived.Test.YtomccaocggplgaaGreatMP15
import Derived.StillTailTactics
import Derived.Ground.Names2Prog
import Derived.Shelf.SlIterI.Nil
import Derived.Shelf.SortM.Plain
import Derived.Shelf.SortM.SortNone
set_option linter.unusedSimpArgs false
set_option linter.unusedVariables false
set_option maxHeartbeats 32000000
set_option maxRecDepth 100000
namespace Go.Proofs.YtomccaocggplgaaGreat
open Go.RowKit
namespace aH
abbrev Pc:=Int×ByteArray
def aS(ps:List Pc):List Value:=ps.flatMap fun p=>[.int .i64 p.1,.string p.2]
theorem qH(a b:List Pc):aS (a++b)=aS a++aS b:=by simp[aS]
theorem Yl(a:List Pc)(k:Nat)(p:Pc)(h:a[k]? =some p):(aS a)[k*2]? =some (.int .i64 p.1)/\(aS a)[k*2+1]? =some (.string p.2):=by
 have hk:∀j,j<2->(aS a)[k*2+j]? =([Value.int .i64 p.1,.string p.2])[j]? :=by intro j hj;unfold aS;rw[flat_get (fun p:Pc=>[Value.int .i64 p.1,.string p.2]) 2 (by decide) (fun _=>rfl),show(k*2+j)/2=k by omega,show(k*2+j)%2=j by omega,h];rfl
 exact⟨hk 0 (by decide),hk 1 (by decide)⟩
theorem afv:Elem Tryz.prog 62 88 2 24:=by obtain⟨i0,hi,hz0,hz1,hz2⟩:=info_parts (show(Tryz.prog.info? 88).map (fun i=>(i.zero,i.size,i.bytes))=some (some (.agg #[.int .i64 0,.string ⟨#[]⟩]),2,24) by kernel_rfl);exact⟨Tryz.underlying62,⟨i0,_,hi,hz0,hz1,hz2,rfl⟩,by decide⟩
def aZ(w:World)(g:Nat)(F:Nat->Prop)(n:Nat)(m:Safe)(ps:List Pc)(aX aQ:Int):Prop:=
 ∃mb A c,(∀k,F k↔k=g\/k=mb\/(Value.slice A ps.length c).ownBlock=some k)/\Has w g 64 #[.map (some mb),.slice A ps.length c,.int .i64 aX,.int .i64 aQ]/\iK w mb n m/\w.ownsRow 0 88 2 (.slice A ps.length c) ps.length (aS ps)
theorem iK.ne{w:World}{b n g:Nat}{m:Safe}{t:TypeId}{cs:Array Value}(h:iK w b n m)(hg:Has w g t cs):b≠g:=by rintro rfl;obtain⟨D,⟨es,clock,hb,_⟩,_⟩:=h;unfold Has at hg;rw[hg]at hb;cases hb
theorem iK.BQ{w:World}{b n base k s:Nat}{m:Safe}{e:TypeId}{v:Value}{xs:List Value}(h:iK w b n m)(hr:w.ownsRow base e s v k xs):v.ownBlock≠some b:=by
 obtain⟨D,⟨es,clock,hb,_⟩,_⟩:=h;obtain⟨_,⟨rfl,_⟩|⟨g,cap,cur,rfl,_,hg,_⟩⟩:=hr
 ·simp[Value.ownBlock]
 ·intro e;injection e with e;simp at e;subst e;rw[hg]at hb;cases hb
theorem aZ.kept{F G:Nat->Prop}{w w':World}{g n:Nat}{m:Safe}{ps:List Pc}{aX aQ:Int}(h:aZ w g F n m ps aX aQ)(hk:Kept G w w')(hs:Sep F G):aZ w' g F n m ps aX aQ:=by obtain⟨mb,A,c,hF,hg,hm,ho⟩:=h;exact⟨mb,A,c,hF,hg.kept hk (hs _ ((hF _).2 (.inl rfl))),hm.kept hk (hs _ ((hF _).2 (.inr (.inl rfl)))),aC ho hk fun k hk'=>hs k ((hF k).2 (.inr (.inr hk')))⟩
theorem aZ.lt{F:Nat->Prop}{w:World}{g n:Nat}{m:Safe}{ps:List Pc}{aX aQ:Int}(h:aZ w g F n m ps aX aQ):∀k,F k->k<w.heap.size:=by
 obtain⟨mb,A,c,hF,hg,hm,ho⟩:=h;intro k hk;rcases(hF k).1 hk with rfl|rfl|h
 ·exact hg.lt
 ·exact hm.lt
 ·exact mD ho h
def afw(w:World)(g:Nat)(F:Nat->Prop)(v:Value)(n:Nat)(m:Safe)(ps:List Pc)(aX aQ:Int)(e:Ending)(w':World):Prop:=
 e=.returned v/\∃F',aZ w' g F' n m ps aX aQ/\jG w F F'/\Kept F w w'
section
variable{F:Nat->Prop}{w:World}{g n:Nat}{m:Safe}{ps:List Pc}{aX aQ:Int}
theorem dZ(h:aZ w g F n m ps aX aQ):
  Calls Tryz.prog 27 #[.pointer (some ⟨g,0,none⟩)] w fun e w'=>e=.returned (.bool false)/\w=w':=by
 obtain⟨mb,A,c,hF,hg,hm,ho⟩:=h;have c0:w.cell? ⟨g,0,none⟩=some (.map (some mb)):=hg.cell 0;clear hF hg hm ho;have hnil:∀W:World,(binOp .eql 61 (.map (some mb)) (.map none)).run Tryz.prog W=.ok (.bool false) W:=fun W=>run_eql_map_nil W _ _ _ _ Tryz.underlying61;go_enter Tryz.func27,Tryz.ntmps27;go_wp2;go_ret;exact⟨rfl,rfl⟩
end
theorem new_any(w:World):Calls Tryz.prog 6 #[] w fun e w'=>∃g F,e=.returned (.pointer (some ⟨g,0,none⟩))/\aZ w' g F 0 (fun _=>none) [] 1 1/\Kept aj w w'/\(∀k,F k->w.heap.size<=k):=by
 have hmk:= @run_makeMap Tryz.prog;go_enter Tryz.func6,Tryz.ntmps6;go_wp2;go_ret;refine⟨w.heap.size+1,fun k=>k=w.heap.size+1\/k=w.heap.size\/(Value.slice none 0 0).ownBlock=some k,?_,⟨w.heap.size,none,0,fun _=>Iff.rfl,?_,?_,?_⟩,?_,?_⟩
 ·rfl
 ·exact Has.bK _ _ _ (by rw[size_alloc])
 ·exact(iK.made w).kept (Kept.refl aj _|>.alloc _) (fun x=>x)
 ·exact⟨rfl,.inl ⟨rfl,rfl⟩⟩
 ·exact((Kept.refl _ _).alloc _).alloc _
 ·rintro k (rfl|rfl|h)
  ·omega
  ·omega
  ·cases h
end aH
namespace aH
variable{F:Nat->Prop}{w:World}{g n:Nat}{m:Safe}{ps:List Pc}{aX aQ:Int}
theorem abw(h:aZ w g F n m ps aX aQ)(f:Int)(s:ByteArray)(hf:1<=f)(hf2:f<=1073741824)(hlen:ps.length<=100000):
  Calls Tryz.prog 189 #[.pointer (some ⟨g,0,none⟩),.int .i64 f,.string s] w (afw w g F (.int .i64 0) n m (ps++[(f,s)]) aX aQ):=by
 have hn:=dZ h;have HN:=ah hn;clear hn;obtain⟨mb,A,c,hF,hg,hm,ho⟩:=h;have c1:w.cell? ⟨g,1,none⟩=some (.slice A ps.length c):=hg.cell 1;have f1:=hg.frozen 1;have hgl:=hg.lt;have hne:=hm.ne hg;have hnr:=own_ne ho hg (by decide);have HG:=ah hg;clear hg;have HM:=ah hm;clear hm;have HO:=ah ho;clear ho;have HF:=ah hF;clear hF;go_enter Tryz.func189,Tryz.ntmps189;go_wp2_with fail;refine HN.out.mono ?_;rintro e w' ⟨rfl,rfl⟩;have hone:∀u∈([.int .i64 f,.string s]:List Value),u.oneCell'=true:=by intro u hu;simp at hu;rcases hu with rfl|rfl<;>rfl
 have hM:ps.length+1<=maxLen:=by unfold maxLen;omega
 have hY:(ps.length+1)*24<=140737488355328:=by omega
 have wG:=ah hone;clear hone;have Pe:=ah hM;clear hM;have HY:=ah hY;clear hY;go_wp2_with (at_builtin;refine aN afv (.tmp 21) (.tmp 25) rfl rfl (Value.slice A ps.length c) rfl (aC HO.out (F:=aj) ((Kept.refl _ _).alloc _) (fun _ _ x=>x)) 1 rfl (Src.dA (m:=1) (Has.new w 88 #[.int .i64 f,.string s]) rfl) wG.out Pe.out HY.out ?_;intro A1 c1' w1 ho1 hg1 ha1;have hg1':=(HG.out.alloc (Obj.cells #[.int .i64 f,.string s] 88)).grown hg1 hnr;have d1:=hg1'.cell 1;have k1:=hg1'.frozen 1);go_ret;have hk1:Kept F w w1:=((Kept.refl F w).alloc _).grown hg1 (fun k hk=> .inl ((HF.out k).2 (.inr (.inr hk))));have hkm:Kept (fun k=>(Value.slice A ps.length c).ownBlock=some k) w w1:=((Kept.refl _ w).alloc _).grown hg1 (fun k hk=> .inl hk);have hne1:∀k,(Value.slice A1 (ps.length+1) c1').ownBlock=some k->k≠g:=fun k hk e=>by subst e;exact own_ne ho1 hg1' (by decide) hk
 refine⟨rfl,fun k=>k=g\/k=mb\/(Value.slice A1 (ps.length+1) c1').ownBlock=some k,⟨mb,A1,c1',fun _=>by simp,?_,?_,?_⟩,?_,?_⟩
 ·have:=hg1'.put 1 (.slice A1 (ps.length+1) c1');simpa using this
 ·exact(HM.out.kept hkm (HM.out.BQ HO.out)).kept (F:=fun k=>k=g) ((Kept.refl _ _).put (.inl rfl)) hne
 ·have:=aC ho1 (F:=fun k=>k=g) ((Kept.refl _ _).put (i:=1) (u:=.slice A1 (ps.length+1) c1') (.inl rfl)) hne1;rw[qH];simpa [aS]using this
 ·rintro k (rfl|rfl|hk)
  ·exact .inl ((HF.out _).2 (.inl rfl))
  ·exact .inl ((HF.out _).2 (.inr (.inl rfl)))
  ·rcases ha1 with e|e
   ·exact .inl ((HF.out _).2 (.inr (.inr (e▸hk))))
   ·rw[hk]at e;injection e with e;exact .inr (by rw[e];simp)
 ·exact hk1.put (.inl ((HF.out _).2 (.inl rfl)))
end aH
namespace aH
variable{F:Nat->Prop}{w:World}{g n:Nat}{m:Safe}{ps:List Pc}{aX aQ:Int}
def total(ps:List Pc):Nat:=(ps.map fun p=>p.2.size).sum
theorem rY(ps:List Pc)(p:Pc):total (ps++[p])=total ps+p.2.size:=by simp[total]
theorem C6(ps:List Pc)(i:Nat):total (ps.take i)<=total ps:=by
 have:ps=ps.take i++ps.drop i:=(List.take_append_drop i ps).symm;conv=>rhs;rw[this]
 simp only[total,List.map_append,List.sum_append];omega
theorem take_snoc{α:Type}{l:List α}{i:Nat}{p:α}(h:l[i]? =some p):l.take (i+1)=l.take i++[p]:=by rw[List.take_add_one,h];rfl
theorem C9{w:World}{A:Option Addr}{k:Nat}{ps:List Pc}(h:Src w 2 A k (aS ps))(hm:0<k)(i:Nat)(p:Pc)(hp:ps[i]? =some p):
  ∃ad,A=some ad/\ad.block<w.heap.size/\w.cell? (ad.add (i*2))=some (.int .i64 p.1)/\w.cell? ⟨(ad.add (i*2)).block,(ad.add (i*2)).off+1,none⟩=some (.string p.2):=by
 obtain⟨ad,rfl,had,hcell⟩:=h.2 hm;obtain⟨k0,k1⟩:=Yl ps i p hp;refine⟨ad,rfl,had,hcell _ _ k0,?_⟩;rw[<-add_lit _ (by omega),add_add];exact hcell _ _ k1
theorem Gz(h:aZ w g F n m ps aX aQ)(hlen:ps.length<=100000)(hsz:total ps<=4611686018427387904):
  Calls Tryz.prog 59 #[.pointer (some ⟨g,0,none⟩)] w fun e w'=>e=.returned (.int .i64 (total ps))/\Kept aj w w':=by
 have hn:=dZ h;have HN:=ah hn;clear hn;obtain⟨mb,A,c,hF,hg,hm,ho⟩:=h;have c1:w.cell? ⟨g,1,none⟩=some (.slice A ps.length c):=hg.cell 1;have HS:=ah (Src.bF ho);clear hF hg hm ho;go_enter Tryz.func59,Tryz.ntmps59;go_wp2_with fail;refine HN.out.mono ?_;rintro e w' ⟨rfl,rfl⟩;go_wp2_with fail;go_loopw [3,5,13] (fun v3 v5 v13 wr=>∃i:Nat,i<=ps.length/\v13=.int .i64 i/\v3=.int .i64 (total (ps.take i))/\Kept aj w wr) (fun _ _ v13 _=>ps.length-(intOf v13).toNat)
 case atStart=>exact⟨0,Nat.zero_le _,rfl,by simp[total],Kept.refl _ _⟩
 case round=>
  obtain⟨i,hi,rfl,rfl,hk⟩:=hrel;by_cases hil:i<ps.length
  ·obtain⟨q,hq⟩:∃q,ps[i]? =some q:=⟨_,lB0 hil⟩;have vk:=HS.out.kept hk (fun _ _ x=>x);obtain⟨ad,rfl,hl1,d0,d1⟩:=C9 vk (by omega) i q hq;have ht:=C6 ps (i+1);rw[take_snoc hq,rY]at ht;have HT:=ah (take_snoc hq);obtain⟨q1,q2⟩:=q;dsimp only at d0 d1 ht;clear hq vk;go_wp2;go_roundw
   case rel=>exact⟨i+1,by omega,by go_num,by rw[HT.out,rY];go_num,hk.alloc _⟩
   case measure=>simp[intOf];omega
  ·obtain rfl:i=ps.length:=by omega
   go_wp2;go_ret;exact⟨by rw[List.take_length];rfl,hk⟩
end aH
namespace aH
variable{F:Nat->Prop}{w:World}{g n:Nat}{m:Safe}{ps:List Pc}{aX aQ:Int}
theorem Has.setCells{b:Nat}{t:TypeId}:∀(vs:List Value) (o:Nat) (w:World) (cs:Array Value),Has w b t cs->∃cs',Has (w.setCells b o vs) b t cs'/\cs'.size=cs.size
 |[],_,_,cs,h=>⟨cs,h,rfl⟩
 |v::r,o,w,cs,h=>by obtain⟨cs',h',e⟩:=Has.setCells r (o+1) _ _ (h.put o v);exact⟨cs',h',by rw[e];simp⟩
theorem Kept.setCells{b:Nat}:∀(vs:List Value) (o:Nat) (w:World),Kept (fun k=>some b=some k) w (w.setCells b o vs)
 |[],_,w=>Kept.refl _ _
 |v::r,o,w=>Kept.then (F:=fun k=>some b=some k) ((Kept.refl _ w).put (g:=b) (i:=o) (u:=v) (.inl rfl)) (Kept.setCells r (o+1) _)
theorem Ym{P:Program}{size:Nat}{v:Value}{n:Nat}{xs:List Value}{t e:TypeId}{z:Value}(h:w.ownsRow 0 e size v n xs)(ht:P.underlying t=some (.slice e))
  (hv:∀w,(zeroValue e).run P w=.ok z w) (hz:z.cells.size=size) (h0:0<size) (h1:∀u∈z.cells,u.oneCell'=true):
  ∃w',(∀ty,(Builtin.clear_ #[t] ty #[v]).run P w=.ok (.tuple #[]) w')/\Kept (fun k=>v.ownBlock=some k) w w'/\∀A c,v=.slice A n c->w'.ownsRow 0 e size (.slice A 0 c) 0 []:=by
 rcases h.2 with⟨rfl,rfl⟩|⟨g,cap,cur,rfl,hb,hg,hn,hm,hs,htk⟩
 ·refine⟨w,fun ty=>by simp[Builtin.clear_,run_underlying ht],Kept.refl _ _,?_⟩;intro A c e;injection e with e1 e2 e3;subst e1;subst e3;exact⟨by simp,.inl ⟨rfl,rfl⟩⟩
 ·rcases Nat.eq_zero_or_pos n with rfl|hp
  ·refine⟨w,fun ty=>by simp[Builtin.clear_,run_underlying ht],Kept.refl _ _,?_⟩;intro A c e;injection e with e1 e2 e3;subst e1;subst e3;exact⟨by simp,.inr ⟨g,cap,cur,rfl,hb,hg,hn,hm,hs,by simp⟩⟩
  ·have hlen:(Builtin.zeroCells z.cells n).toList.length=n*size:=by simp[Builtin.zeroCells,hz]
   have hle:n*size<=cap*size:=Nat.mul_le_mul_right _ hn;have hH:Has w g e cur:=hg;have hone:∀u∈(Builtin.zeroCells z.cells n).toList,u.oneCell'=true:=by intro u hu;simp only[Builtin.zeroCells,Array.toList_map,List.mem_map]at hu;obtain⟨i,_,rfl⟩:=hu;have hlt:i%z.cells.size<z.cells.size:=Nat.mod_lt _ (by omega);rw[getElem!_pos z.cells _ hlt];exact h1 _ (Array.getElem_mem hlt)
   have hst:=run_storeCells_cells (P:=P) g 0 (Builtin.zeroCells z.cells n).toList 0 w
    (by intro j hj;rw[hlen]at hj;rw[show 0+0+j=j by omega,hH.cell,Array.getElem?_eq_getElem (by omega)];rfl)
    (by intro j hj;exact hH.frozen _) hone
   obtain⟨cs',hcs,hsz⟩:=Has.setCells (Builtin.zeroCells z.cells n).toList 0 w cur hH;refine⟨_,fun ty=> ?_,Kept.setCells (Builtin.zeroCells z.cells n).toList 0 w,?_⟩
   ·obtain⟨m,rfl⟩:∃m,n=m+1:=⟨n-1,by omega⟩;simp only[Nat.add_zero]at hst;simp[Builtin.clear_,run_underlying ht,hv,hst]
   ·intro A c e;injection e with e1 e2 e3;subst e1;subst e3;exact⟨by simp,.inr ⟨g,cap,cs',rfl,hb,hcs,Nat.zero_le _,hm,by omega,by simp⟩⟩
theorem Jk(h:aZ w g F n m ps aX aQ):
  Calls Tryz.prog 28 #[.pointer (some ⟨g,0,none⟩)] w fun e w'=>e=.returned (.tuple #[])/\aZ w' g F n m [] aX aQ/\Kept F w w':=by
 obtain⟨mb,A,c,hF,hg,hm,ho⟩:=h;obtain⟨w1,hcl,hk,hrow⟩:=Ym ho Tryz.underlying62 (z:=.agg #[.int .i64 0,.string ⟨#[]⟩]) (by intro w;kernel_rfl) rfl (by decide) (by intro u hu;simp[Value.cells]at hu;rcases hu with rfl|rfl<;>rfl);have ho1:=hrow A c rfl;have hnr:=own_ne ho hg (by decide);have hg1:Has w1 g 64 #[.map (some mb),.slice A ps.length c,.int .i64 aX,.int .i64 aQ]:=hg.kept hk hnr;have hm1:iK w1 mb n m:=hm.kept hk (hm.BQ ho);have hne:=hm.ne hg;have c0:w.cell? ⟨g,1,none⟩=some (.slice A ps.length c):=hg.cell 1;have c1:w1.cell? ⟨g,1,none⟩=some (.slice A ps.length c):=hg1.cell 1;have f1:=hg1.frozen 1;have hsl:∀W:World,(Instr.slice 62 (.slice A ps.length c) none (some (.int .i64 0)) none).run Tryz.prog W=.ok (.slice A 0 c) W:=by intro W;cases A<;>simp[go_sem,Tryz.underlying62]
 have hnn:(Value.slice A 0 c).ownBlock=(Value.slice A ps.length c).ownBlock:=by cases A<;>rfl
 have HK:=ah hk;clear hk;have HG:=ah hg1;clear hg1 hg;have HM:=ah hm1;clear hm1 hm;have HO:=ah ho1;clear ho1 ho hrow;have HF:=ah hF;clear hF;have Jg:=ah hnn;clear hnn;go_enter Tryz.func28,Tryz.ntmps28;go_wp2;go_end0;refine⟨rfl,⟨mb,A,c,?_,?_,?_,?_⟩,?_⟩
 ·intro k;rw[HF.out k,<-Jg.out];exact Iff.rfl
 ·((repeat (first|with_reducible exact HG.out|with_reducible apply Has.dH|with_reducible apply Has.past|with_reducible apply Has.drewN|with_reducible apply Has.drew|with_reducible apply Has.alloc))<;>first|omega|rfl)
 ·exact HM.out.kept (F:=fun k=>k=g) (by(repeat'(first|(with_reducible first|exact ak|apply au|apply ay|apply aA|apply aB)|(exact .inl rfl)|(right;simp;done)))) hne
 ·exact aC HO.out (F:=fun k=>k=g) (by(repeat'(first|(with_reducible first|exact ak|apply au|apply ay|apply aA|apply aB)|(exact .inl rfl)|(right;simp;done)))) fun k hk e=>hnr (Jg.out.symm.trans (hk.trans (by rw[e])))
 ·exact(HK.out.mono fun k hk=>(HF.out k).2 (.inr (.inr hk))).put (.inl ((HF.out _).2 (.inl rfl)))
def qK(m:Safe)(left:Nat):List Pc->Safe
 |[]=>m
 |p::ps=>if left<p.2.size then (if left=0 then m else oD m p.1 (dU m p.1++p.2.extract 0 left))else qK (oD m p.1 (dU m p.1++p.2)) (left-p.2.size) ps
theorem LW(m:Safe)(k i:Int)(s:ByteArray):dU (oD m k s) i=if i=k then s else dU m i:=by unfold dU oD;split<;>simp_all
theorem aen{m:Safe}{Z:Nat}(h:∀k,(dU m k).size<=Z)(k:Int)(s:ByteArray)(i:Int):(dU (oD m k (dU m k++s)) i).size<=Z+s.size:=by
 rw[LW];split
 ·have:=h k;simp;omega
 ·have:=h i;omega
theorem drop_cons{α:Type}{l:List α}{i:Nat}{p:α}(h:l[i]? =some p):l.drop i=p::l.drop (i+1):=by obtain⟨hi,e⟩:=lD0.1 h;rw[<-e];exact List.drop_eq_getElem_cons hi
theorem iK.mono{b n':Nat}(h:iK w b n m)(hn:n<=n'):iK w b n' m:=by obtain⟨D,ho,hD⟩:=h;exact⟨D,ho.mono hn,hD⟩
def l7(m:Safe):List Pc->Safe
 |[]=>m
 |p::ps=>l7 (oD m p.1 (dU m p.1++p.2)) ps
theorem Pg(h:aZ w g F n m ps aX aQ)(hpi:∀p∈ps,I64 p.1)(hlen:ps.length<=100000)(hn:n<=1000000)
  (Z:Nat) (hZ:∀k,(dU m k).size<=Z) (hsz:Z+total ps<=4611686018427387904):
  Calls Tryz.prog 60 #[.pointer (some ⟨g,0,none⟩)] w fun e w'=>e=.returned (.int .i64 (total ps))/\aZ w' g F (n+ps.length) (l7 m ps) [] aX aQ/\Kept F w w':=by
 have hn:=dZ h;have HN:=ah hn;clear hn;have hpe:∀W,Kept aj w W->_:=fun W hW=>Gz (h.kept hW (fun _ _ x=>x)) hlen (by omega);have DW:=ah hpe;clear hpe;obtain⟨mb,A,c,hF,hg,hm,ho⟩:=h;have c0:w.cell? ⟨g,0,none⟩=some (.map (some mb)):=hg.cell 0;have c1:w.cell? ⟨g,1,none⟩=some (.slice A ps.length c):=hg.cell 1;have HG:=ah hg;clear hg;have HM:=ah hm;clear hm;have HO:=ah ho;clear ho;have HF:=ah hF;clear hF;have vw:=ah hpi;clear hpi;have HZ:=ah hZ;clear hZ;go_enter Tryz.func60,Tryz.ntmps60;go_wp2_with fail;refine HN.out.mono ?_;rintro e w' ⟨rfl,rfl⟩;go_wp2_with fail;refine(DW.out _ (Kept.refl _ _)).mono ?_;rintro e w0 ⟨rfl,hk0⟩;have c1:w0.cell? ⟨g,1,none⟩=some (.slice A ps.length c):=(HG.out.kept hk0 (fun x=>x)).cell 1;go_wp2_with fail;go_loopw [5,15] (fun v5 v15 wr=>∃(i:Nat) (mi:Safe),i<=ps.length/\v15=.int .i64 i/\iK wr mb (n+i) mi/\l7 m ps=l7 mi (ps.drop i)/\(∀k,(dU mi k).size<=Z+total (ps.take i))/\Kept (fun k=>k=mb) w wr) (fun _ v15 _=>ps.length-(intOf v15).toNat)
 case atStart=>exact⟨0,m,Nat.zero_le _,rfl,HM.out.kept hk0 (fun x=>x),rfl,by simpa [total]using HZ.out,hk0.mono fun _ x=>x.elim⟩
 case round=>
  obtain⟨i,mi,hi,rfl,uX,hcr,hzi,hk⟩:=hrel;have hend:∀(W:World) (j:Nat) (mj:Safe),j<=ps.length->iK W mb (n+j) mj->Kept (fun k=>k=mb) wr W->aZ W g F (n+ps.length) mj ps aX aQ/\Kept F w W:=by intro W j mj hj hmj hkW;have hkk:=hk.then hkW;refine⟨⟨mb,A,c,HF.out,HG.out.kept hkk (fun e=>HM.out.ne HG.out e.symm),hmj.mono (by omega),aC HO.out hkk ?_⟩,hkk.mono fun k e=>(HF.out k).2 (.inr (.inl e))⟩;rintro k hkb rfl;exact HM.out.BQ HO.out hkb
  have jI:=ah hend;clear hend;have hkg:=HG.out.kept hk (fun e=>HM.out.ne HG.out e.symm);have d0:wr.cell? ⟨g,0,none⟩=some (.map (some mb)):=hkg.cell 0;have hgl:=hkg.lt;clear hkg;by_cases hil:i<ps.length
  ·obtain⟨q,hq⟩:∃q,ps[i]? =some q:=⟨_,lB0 hil⟩;have vk:=(Src.bF HO.out).kept hk (by rintro ad rfl e;exact HM.out.BQ HO.out (by rw[Value.ownBlock,e]));obtain⟨ad,rfl,hl1,e0,e1⟩:=C9 vk (by omega) i q hq;clear vk;have ht:=C6 ps (i+1);rw[take_snoc hq,rY]at ht;have HT:=ah (take_snoc hq);rw[drop_cons hq]at hcr;have hq1:I64 q.1:=vw.out q (lC0 hq);have hmw:iK (World.drew (wr.alloc (.cells #[.int .i64 q.1,.string q.2] 88))) mb (n+i) mi:=uX.kept ((Kept.refl aj _).alloc _).drew (fun x=>x);have hlk:=(hmw.look hq1).1;have hsq:=hzi q.1;obtain⟨q1,q2⟩:=q;rw[l7]at hcr;dsimp only at e0 e1 hq1 hmw hlk hsq ht hcr;clear hq;have Yn:=ah hcr;clear hcr;have HZI:=ah hzi;clear hzi;have HK:=ah hk;clear hk;obtain⟨w2,hst,hm2,hk2⟩:=hmw.store (by unfold maxLen;omega) hq1 (dU mi q1++q2) (by unfold maxLen;simp;omega);have b1:w2.cell? ⟨wr.heap.size,1,none⟩=some (.string q2):=(((Has.new wr 88 #[.int .i64 q1,.string q2]).drew).kept hk2 (fun e=>by have:=uX.lt;omega)).cell 1;clear hmw;have hnl:¬9223372036854775807<(dU mi q1).size+q2.size:=by omega
   go_wp2_with fail;refine wp_region_still_tail 10 (by kernel_rfl) (by kernel_rfl) ?_;simp only[List.take_succ_cons,List.take_zero,List.drop_succ_cons,List.drop_zero];change wpStill _ _ (World.drew (wr.alloc _)) _ _ _;repeat still_step
   refine wpStill_nil ?_;change wpList _ _ _ _ _ (World.drew (wr.alloc _));go_wp2_with fail;have ahC:Kept (fun k=>k=mb) wr w2:=((Kept.refl _ _).alloc _).drew.then hk2;have ahD:∀k,(dU (oD mi q1 (dU mi q1++q2)) k).size<=Z+total (ps.take (i+1)):=by intro k;rw[HT.out,rY,<-Nat.add_assoc];exact aen HZI.out q1 q2 k
   go_roundw
   case rel=>exact⟨i+1,_,by omega,by go_num,hm2,Yn.out,ahD,HK.out.then ahC⟩
   case measure=>simp[intOf];omega
  ·obtain rfl:i=ps.length:=by omega
   go_wp2_with fail;obtain⟨hd1,hk1⟩:=jI.out wr ps.length _ (Nat.le_refl _) uX (Kept.refl _ _);refine(Jk hd1).mono ?_;rintro e w4 ⟨rfl,hd2,hk3⟩;go_wp2_with fail;go_ret;refine⟨rfl,?_,hk1.then hk3⟩;have hz:=hcr;rw[List.drop_length,l7]at hz;rw[hz];exact hd2
end aH
end Go.Proofs.YtomccaocggplgaaGreat
namespace Go.Proofs.YtomccaocggplgaaGreat
open Go.Shelf Go.RowKit
namespace Bld
def ren:Go.Shelf.Ren:=⟨fun|166=>206|169=>194|240=>244|276=>254|n=>n,fun|0=>0|3=>3|4=>4|5=>5|9=>9|20=>20|37=>253|70=>255|72=>257|75=>273|80=>261|127=>312|164=>326|n=>n,fun|n=>n⟩
theorem lays166:Go.Proofs.Lays.n166 Tryz.prog ren:={
 mixed:=by kernel_rfl
 f166:=Tryz.func206.trans (congrArg some (by kernel_rfl))
 f240:=Tryz.func244.trans (congrArg some (by kernel_rfl))
 f276:=Tryz.func254.trans (congrArg some (by kernel_rfl))
 t0:=Tryz.underlying0
 a0:=Tryz.isAgg0
 z0:=Tryz.sizeOf0
 v0:=Tryz.zeroValue0
 t3:=Tryz.underlying3
 a3:=Tryz.isAgg3
 z3:=Tryz.sizeOf3
 v3:=Tryz.zeroValue3
 t4:=Tryz.underlying4
 a4:=Tryz.isAgg4
 z4:=Tryz.sizeOf4
 v4:=Tryz.zeroValue4
 t9:=Tryz.underlying9
 a9:=Tryz.isAgg9
 z9:=Tryz.sizeOf9
 v9:=Tryz.zeroValue9
 t20:=Tryz.underlying20
 a20:=Tryz.isAgg20
 z20:=Tryz.sizeOf20
 v20:=Tryz.zeroValue20
 t37:=Tryz.underlying253
 a37:=Tryz.isAgg253
 z37:=Tryz.sizeOf253
 v37:=Tryz.zeroValue253
 t70:=Tryz.underlying255
 a70:=Tryz.isAgg255
 z70:=Tryz.sizeOf255
 v70:=Tryz.zeroValue255
 t72:=Tryz.underlying257
 a72:=Tryz.isAgg257
 z72:=Tryz.sizeOf257
 v72:=Tryz.zeroValue257
 t75:=Tryz.underlying273
 a75:=Tryz.isAgg273
 z75:=Tryz.sizeOf273
 v75:=Tryz.zeroValue273
 t164:=Tryz.underlying326
 a164:=Tryz.isAgg326
 z164:=Tryz.sizeOf326
 v164:=Tryz.zeroValue326
}
theorem lays169:Go.Proofs.Lays.n169 Tryz.prog ren:={
 mixed:=by kernel_rfl
 f169:=Tryz.func194.trans (congrArg some (by kernel_rfl))
 t0:=Tryz.underlying0
 a0:=Tryz.isAgg0
 z0:=Tryz.sizeOf0
 v0:=Tryz.zeroValue0
 t3:=Tryz.underlying3
 a3:=Tryz.isAgg3
 z3:=Tryz.sizeOf3
 v3:=Tryz.zeroValue3
 t9:=Tryz.underlying9
 a9:=Tryz.isAgg9
 z9:=Tryz.sizeOf9
 v9:=Tryz.zeroValue9
 t37:=Tryz.underlying253
 a37:=Tryz.isAgg253
 z37:=Tryz.sizeOf253
 v37:=Tryz.zeroValue253
 t70:=Tryz.underlying255
 a70:=Tryz.isAgg255
 z70:=Tryz.sizeOf255
 v70:=Tryz.zeroValue255
 t72:=Tryz.underlying257
 a72:=Tryz.isAgg257
 z72:=Tryz.sizeOf257
 v72:=Tryz.zeroValue257
 t127:=Tryz.underlying312
 a127:=Tryz.isAgg312
 z127:=Tryz.sizeOf312
 v127:=Tryz.zeroValue312
}
theorem extra:Builder.Extra Tryz.prog ren:={
 sizeBuilder:=by kernel_rfl
 liesBuilder:=by kernel_rfl
 t5:=Tryz.underlying5
 a5:=Tryz.isAgg5
 z5:=Tryz.sizeOf5
 v5:=Tryz.zeroValue5
 infoByte:=by kernel_rfl
 cellsByte:=by kernel_rfl
 sizeByte:=by kernel_rfl
 neB5:=by decide}
theorem write_any(B b:Nat)(bs:List Value)(s:ByteArray)(w:World)(h:Lib.IsBuilderF 257 5 B b bs w)(hlen:bs.length+s.size<=140737488355328)(hBw:B<=w.heap.size):
  Calls Tryz.prog 206 #[.pointer (some ⟨b,0,none⟩),.string s] w fun e w'=>e=.returned (.tuple #[.int .i64 s.size,.nilIface])/\(Lib.BuilderAtF 257 5 B b (.pointer (some ⟨b,0,none⟩)) (bs++Lib.strCells s) w'/\Below B w w'/\Lib.OthersKept 5 (some b) w w'):=
 Any.Builder_WriteString_k lays166 extra B b bs s w h hlen hBw
theorem Cm(B b:Nat)(l:List UInt8)(w:World)(h:Lib.IsBuilderF 257 5 B b (Lib.byteCells l) w)(hBw:B<=w.heap.size):
  Calls Tryz.prog 194 #[.pointer (some ⟨b,0,none⟩)] w fun e w'=>e=.returned (.string ⟨l.toArray⟩)/\(Lib.IsBuilderF 257 5 B b (Lib.byteCells l) w'/\Below B w w'/\Lib.OthersKept 5 (some b) w w'):=
 Any.Builder_String_any_k lays169 extra B b l w h hBw
end Bld
end Go.Proofs.YtomccaocggplgaaGreat
namespace Go.Proofs.YtomccaocggplgaaGreat
open Go.RowKit
namespace aH
variable{F:Nat->Prop}{w:World}{g n:Nat}{m:Safe}{ps:List Pc}{aX aQ:Int}
def ofFile(f:Int)(ps:List Pc):List UInt8:=ps.flatMap fun p=>if p.1=f then p.2.data.toList else []
theorem GG(f:Int)(ps:List Pc)(p:Pc):ofFile f (ps++[p])=ofFile f ps++if p.1=f then p.2.data.toList else []:=by simp[ofFile]
theorem GH(f:Int)(p:Pc)(ps:List Pc):ofFile f (p::ps)=(if p.1=f then p.2.data.toList else [])++ofFile f ps:=by simp[ofFile]
theorem total_cons(p:Pc)(ps:List Pc):total (p::ps)=p.2.size+total ps:=by simp[total]
theorem Jl(f:Int)(ps:List Pc):(ofFile f ps).length<=total ps:=by
 induction ps with
 |nil=>simp[ofFile]
 |cons p ps ih=>
  rw[GH,total_cons,lA0];split
  ·simp;omega
  ·simp;omega
def dataOf(m:Safe)(ps:List Pc)(f:Int):ByteArray:=⟨((dU m f).data.toList++ofFile f ps).toArray⟩
theorem zq(h:aZ w g F n m ps aX aQ)(f:Int)(hf:I64 f)(hlen:ps.length<=100000)(hsz:(dU m f).size+total ps<=140737488355328):
  Calls Tryz.prog 122 #[.pointer (some ⟨g,0,none⟩),.int .i64 f] w fun e w'=>e=.returned (.string (dataOf m ps f))/\Kept aj w w':=by
 have hn:=dZ h;have HN:=ah hn;clear hn;obtain⟨mb,A,c,hF,hg,hm,ho⟩:=h;have c0:w.cell? ⟨g,0,none⟩=some (.map (some mb)):=hg.cell 0;have c1:w.cell? ⟨g,1,none⟩=some (.slice A ps.length c):=hg.cell 1;have hgl:=hg.lt;have hlk:=((hm.kept ((Kept.refl aj w).alloc (.cells #[.pointer none,.slice none 0 0] 257)) (fun x=>x)).look hf).1;have HG:=ah hg;clear hg;have HM:=ah hm;clear hm;have HS:=ah (Src.bF ho);clear ho;have Yo:=ah (Lib.IsBuilderF.of (Lib.fresh_isBuilder 257 5 w));clear hF;go_enter Tryz.func122,Tryz.ntmps122;go_wp2_with fail;refine HN.out.mono ?_;rintro e w' ⟨rfl,rfl⟩;go_wp2_with fail;refine(Bld.write_any w.heap.size w.heap.size [] (dU m f) _ Yo.out (by simp;omega) (by simp)).mono ?_;rintro e w1 ⟨rfl,hb1,hk1,-⟩;have hbl:Below w.heap.size w w1:=((Below.refl _ _).alloc (Nat.le_refl _) _).trans hk1;have hkb:Kept aj w w1:=Kept.of_below hbl (fun k h _=>h);have c1':w1.cell? ⟨g,1,none⟩=some (.slice A ps.length c):=(HG.out.kept hkb (fun x=>x)).cell 1;have afx:Lib.IsBuilderF 257 5 w.heap.size w.heap.size (Lib.byteCells ((dU m f).data.toList++ofFile f (ps.take 0))) w1:=by refine .inr ?_;simpa [ofFile,show Lib.strCells (dU m f)=Lib.byteCells (dU m f).data.toList from rfl]using hb1
 have ahE:=ah afx;clear afx hb1;go_wp2_with fail;go_loopw [7,22] (fun v7 v22 wr=>∃i:Nat,i<=ps.length/\v22=.int .i64 i/\Lib.IsBuilderF 257 5 w.heap.size w.heap.size (Lib.byteCells ((dU m f).data.toList++ofFile f (ps.take i))) wr/\Below w.heap.size w wr) (fun _ v22 _=>ps.length-(intOf v22).toNat)
 case atStart=>exact⟨0,Nat.zero_le _,rfl,ahE.out,hbl⟩
 case round=>
  obtain⟨i,hi,rfl,hib,hbw⟩:=hrel;have HK:=ah (Kept.of_below (F:=aj) hbw (fun k h _=>h));have yA:=ah hbw;clear hbw;have hsl:=yA.out.size;have Yo:=ah hib;clear hib;by_cases hil:i<ps.length
  ·obtain⟨q,hq⟩:∃q,ps[i]? =some q:=⟨_,lB0 hil⟩;have vk:=HS.out.kept HK.out (fun _ _ x=>x);obtain⟨ad,rfl,hl1,e0,e1⟩:=C9 vk (by omega) i q hq;clear vk;have ht:=C6 ps (i+1);rw[take_snoc hq,rY]at ht;have hol:=Jl f (ps.take i);have HT:=ah (take_snoc hq);obtain⟨q1,q2⟩:=q;dsimp only at e0 e1 ht;clear hq;by_cases hqf:q1=f
   ·subst hqf;go_wp2_with fail;refine(Bld.write_any w.heap.size w.heap.size _ q2 _ (Yo.out.alloc _) (by simp[Lib.byteCells_length];omega) (by simp;omega)).mono ?_;rintro e w2 ⟨rfl,hb2,hk2,-⟩;have hb3:Below w.heap.size w w2:=(yA.out.alloc hsl _).trans hk2;have hb4:Lib.IsBuilderF 257 5 w.heap.size w.heap.size (Lib.byteCells ((dU m q1).data.toList++ofFile q1 (ps.take (i+1)))) w2:=by refine .inr ?_;rw[HT.out,GG];simpa [Lib.byteCells,Lib.strCells]using hb2
    go_wp2_with fail;go_roundw
    case rel=>exact⟨i+1,by omega,by go_num,hb4,hb3⟩
    case measure=>simp[intOf];omega
   ·have hne:(q1==f)=false:=by simpa using hqf
    have hb4:Lib.byteCells ((dU m f).data.toList++ofFile f (ps.take (i+1)))=Lib.byteCells ((dU m f).data.toList++ofFile f (ps.take i)):=by rw[HT.out,GG];simp[hqf]
    have HB4:=ah hb4;clear hb4;go_wp2_with fail;go_roundw
    case rel=>exact⟨i+1,by omega,by go_num,by rw[HB4.out];exact Yo.out.alloc _,yA.out.alloc hsl _⟩
    case measure=>simp[intOf];omega
  ·obtain rfl:i=ps.length:=by omega
   go_wp2_with fail;refine(Bld.Cm w.heap.size w.heap.size _ _ Yo.out (by omega)).mono ?_;rintro e w2 ⟨rfl,hb2,hk2,-⟩;have hb3:=yA.out.trans hk2;go_wp2_with fail;go_ret;exact⟨rfl,Kept.of_below hb3 (fun k h _=>h)⟩
end aH
end Go.Proofs.YtomccaocggplgaaGreat
namespace Go.Proofs.YtomccaocggplgaaGreat
open Go.Shelf Go.Sort Go.RowKit Go.Maps Go.Proofs
namespace It
def keysA_ren:Go.Shelf.Ren:=⟨fun|7=>106|10=>186|n=>n,fun|23=>83|26=>3|3=>4|28=>172|0=>0|27=>171|33=>86|4=>4|n=>n,fun|n=>n⟩
theorem keysA:Go.Proofs.SlLaysZI.n7 Tryz.prog keysA_ren:={
 mixed:=by kernel_rfl
 f7:=⟨Tryz.f106.name,by decide,Tryz.func106.trans (congrArg some (by kernel_rfl))⟩
 f10:=⟨Tryz.f186.name,by decide,Tryz.func186.trans (congrArg some (by kernel_rfl))⟩
 t0:=Tryz.underlying0
 a0:=Tryz.isAgg0
 z0:=Tryz.sizeOf0
 v0:=Tryz.zeroValue0
 t4:=Tryz.underlying4
 a4:=Tryz.isAgg4
 z4:=Tryz.sizeOf4
 v4:=Tryz.zeroValue4
 t23:=Tryz.underlying83
 a23:=Tryz.isAgg83
 z23:=Tryz.sizeOf83
 v23:=Tryz.zeroValue83
 t26:=Tryz.underlying3
 a26:=Tryz.isAgg3
 z26:=Tryz.sizeOf3
 v26:=Tryz.zeroValue3
 t27:=Tryz.underlying171
 a27:=Tryz.isAgg171
 z27:=Tryz.sizeOf171
 v27:=Tryz.zeroValue171
 t28:=Tryz.underlying172
 a28:=Tryz.isAgg172
 z28:=Tryz.sizeOf172
 v28:=Tryz.zeroValue172
 t33:=Tryz.underlying86
 a33:=Tryz.isAgg86
 z33:=Tryz.sizeOf86
 v33:=Tryz.zeroValue86}
def sortedA_ren:Go.Shelf.Ren:=⟨fun|6=>105|8=>185|9=>58|11=>236|13=>121|12=>120|23=>204|24=>205|14=>195|15=>196|16=>197|17=>198|18=>199|19=>200|20=>201|21=>202|22=>203|25=>238|26=>239|27=>240|28=>241|29=>242|30=>243|31=>253|n=>n,fun|26=>3|28=>172|24=>71|0=>0|3=>3|37=>189|48=>271|50=>23|4=>4|40=>264|39=>263|45=>122|5=>5|9=>9|51=>313|55=>224|57=>323|58=>324|33=>86|n=>n,fun|n=>n⟩
theorem sortedA:Go.Proofs.SlLaysZI.n6 Tryz.prog sortedA_ren:={
 mixed:=by kernel_rfl
 f6:=⟨Tryz.f105.name,by decide,Tryz.func105.trans (congrArg some (by kernel_rfl))⟩
 f8:=⟨Tryz.f185.name,by decide,Tryz.func185.trans (congrArg some (by kernel_rfl))⟩
 f11:=⟨Tryz.f236.name,by decide,Tryz.func236.trans (congrArg some (by kernel_rfl))⟩
 t0:=Tryz.underlying0
 a0:=Tryz.isAgg0
 z0:=Tryz.sizeOf0
 v0:=Tryz.zeroValue0
 t24:=Tryz.underlying71
 a24:=Tryz.isAgg71
 z24:=Tryz.sizeOf71
 v24:=Tryz.zeroValue71
 t26:=Tryz.underlying3
 a26:=Tryz.isAgg3
 z26:=Tryz.sizeOf3
 v26:=Tryz.zeroValue3
 t28:=Tryz.underlying172
 a28:=Tryz.isAgg172
 z28:=Tryz.sizeOf172
 v28:=Tryz.zeroValue172
 i26:=by kernel_rfl}
def Yp:Go.Shelf.Ren:=⟨fun|5=>58|8=>121|7=>120|19=>204|20=>205|10=>195|11=>196|12=>197|13=>198|14=>199|15=>200|16=>201|17=>202|18=>203|30=>238|31=>239|32=>240|33=>241|34=>242|35=>243|40=>253|n=>n,fun|23=>71|25=>3|3=>3|32=>189|22=>71|0=>0|44=>271|46=>23|4=>4|36=>264|35=>263|41=>122|5=>5|9=>9|53=>313|57=>224|63=>323|64=>324|n=>n,fun|n=>n⟩
theorem sortA:Go.Proofs.SlLaysM.n5 Tryz.prog Yp:={
 mixed:=by kernel_rfl
 f5:=⟨Tryz.f58.name,by decide,Tryz.func58.trans (congrArg some (by kernel_rfl))⟩
 f7:=⟨Tryz.f120.name,by decide,Tryz.func120.trans (congrArg some (by kernel_rfl))⟩
 f8:=Tryz.func121.trans (congrArg some (by kernel_rfl))
 f10:=⟨Tryz.f195.name,by decide,Tryz.func195.trans (congrArg some (by kernel_rfl))⟩
 f11:=⟨Tryz.f196.name,by decide,Tryz.func196.trans (congrArg some (by kernel_rfl))⟩
 f12:=⟨Tryz.f197.name,by decide,Tryz.func197.trans (congrArg some (by kernel_rfl))⟩
 f13:=⟨Tryz.f198.name,by decide,Tryz.func198.trans (congrArg some (by kernel_rfl))⟩
 f14:=⟨Tryz.f199.name,by decide,Tryz.func199.trans (congrArg some (by kernel_rfl))⟩
 f15:=⟨Tryz.f200.name,by decide,Tryz.func200.trans (congrArg some (by kernel_rfl))⟩
 f16:=⟨Tryz.f201.name,by decide,Tryz.func201.trans (congrArg some (by kernel_rfl))⟩
 f17:=⟨Tryz.f202.name,by decide,Tryz.func202.trans (congrArg some (by kernel_rfl))⟩
 f18:=⟨Tryz.f203.name,by decide,Tryz.func203.trans (congrArg some (by kernel_rfl))⟩
 f19:=Tryz.func204.trans (congrArg some (by kernel_rfl))
 f20:=Tryz.func205.trans (congrArg some (by kernel_rfl))
 f30:=⟨Tryz.f238.name,by decide,Tryz.func238.trans (congrArg some (by kernel_rfl))⟩
 f31:=Tryz.func239.trans (congrArg some (by kernel_rfl))
 f32:=Tryz.func240.trans (congrArg some (by kernel_rfl))
 f33:=⟨Tryz.f241.name,by decide,Tryz.func241.trans (congrArg some (by kernel_rfl))⟩
 f34:=⟨Tryz.f242.name,by decide,Tryz.func242.trans (congrArg some (by kernel_rfl))⟩
 f35:=⟨Tryz.f243.name,by decide,Tryz.func243.trans (congrArg some (by kernel_rfl))⟩
 f40:=⟨Tryz.f253.name,by decide,Tryz.func253.trans (congrArg some (by kernel_rfl))⟩
 t0:=Tryz.underlying0
 a0:=Tryz.isAgg0
 z0:=Tryz.sizeOf0
 v0:=Tryz.zeroValue0
 t3:=Tryz.underlying3
 a3:=Tryz.isAgg3
 z3:=Tryz.sizeOf3
 v3:=Tryz.zeroValue3
 t4:=Tryz.underlying4
 a4:=Tryz.isAgg4
 z4:=Tryz.sizeOf4
 v4:=Tryz.zeroValue4
 t5:=Tryz.underlying5
 a5:=Tryz.isAgg5
 z5:=Tryz.sizeOf5
 v5:=Tryz.zeroValue5
 t9:=Tryz.underlying9
 a9:=Tryz.isAgg9
 z9:=Tryz.sizeOf9
 v9:=Tryz.zeroValue9
 t22:=Tryz.underlying71
 a22:=Tryz.isAgg71
 z22:=Tryz.sizeOf71
 v22:=Tryz.zeroValue71
 t23:=Tryz.underlying71
 a23:=Tryz.isAgg71
 z23:=Tryz.sizeOf71
 v23:=Tryz.zeroValue71
 t25:=Tryz.underlying3
 a25:=Tryz.isAgg3
 z25:=Tryz.sizeOf3
 v25:=Tryz.zeroValue3
 t32:=Tryz.underlying189
 a32:=Tryz.isAgg189
 z32:=Tryz.sizeOf189
 v32:=Tryz.zeroValue189
 t35:=Tryz.underlying263
 a35:=Tryz.isAgg263
 z35:=Tryz.sizeOf263
 v35:=Tryz.zeroValue263
 t36:=Tryz.underlying264
 a36:=Tryz.isAgg264
 z36:=Tryz.sizeOf264
 v36:=Tryz.zeroValue264
 t41:=Tryz.underlying122
 a41:=Tryz.isAgg122
 z41:=Tryz.sizeOf122
 v41:=Tryz.zeroValue122
 t44:=Tryz.underlying271
 a44:=Tryz.isAgg271
 z44:=Tryz.sizeOf271
 v44:=Tryz.zeroValue271
 t46:=Tryz.underlying23
 a46:=Tryz.isAgg23
 z46:=Tryz.sizeOf23
 v46:=Tryz.zeroValue23
 t53:=Tryz.underlying313
 a53:=Tryz.isAgg313
 z53:=Tryz.sizeOf313
 v53:=Tryz.zeroValue313
 t57:=Tryz.underlying224
 a57:=Tryz.isAgg224
 z57:=Tryz.sizeOf224
 v57:=Tryz.zeroValue224
 t63:=Tryz.underlying323
 a63:=Tryz.isAgg323
 z63:=Tryz.sizeOf323
 v63:=Tryz.zeroValue323
 t64:=Tryz.underlying324
 a64:=Tryz.isAgg324
 z64:=Tryz.sizeOf324
 v64:=Tryz.zeroValue324}
theorem sortsA(m:Nat):AnyZI.SortsIn Tryz.prog sortedA_ren Fence.wide m:=
 ⟨fun blk off cap ss W hH hblk hsz=>callsIn_wide.2 (AnyM.slices_Sort_int sortA blk off cap ss W hH hblk hsz),
  fun p cap W=>callsIn_wide.2 (AnyM.slices_Sort_int_none sortA p cap W)⟩
theorem abx(mb:Option Nat)(W:World):Calls Tryz.prog 106 #[.map mb] W fun e w'=>e=.returned (.func (.func 186) #[] #[.pointer (some ⟨W.heap.size,0,none⟩)])/\w'=W.alloc (.cells #[.map mb] 83):=
 (callsIn_wide (n:=5)).1 (AnyZI.keys_in keysA Fence.wide 5 trivial rfl mb W)
theorem Vb{H:Type}(b nn:Nat)(D0:DataW H)(R:Value->Option (DataW H×List MemPlace))(w:World)(hown:w.ownsMap Tryz.prog 3 R b nn D0)(hmax:Maps.size D0<=maxLen)(hbytes:Maps.size D0*8<=140737488355328):
  Calls Tryz.prog 105 #[.func (.func 186) #[] #[.pointer (some ⟨w.heap.size,0,none⟩)]] (w.alloc (.cells #[.map (some b)] 83)) fun e w'=>∃(v:Value) (ss:List Int),e=.returned v/\ss.Perm (intKeys D0)/\
   w'.ownsRow (w.heap.size+1) 3 1 v ss.length ((ss.mergeSort (fun x y=>decide (x<=y))).map encZ)/\Below (w.heap.size+1) (w.alloc (.cells #[.map (some b)] 83)) w':=by
 have hbl:=hown.lt
 have hseq:SeqGives Fence.wide 2 Tryz.prog 186 #[.pointer (some ⟨w.heap.size,0,none⟩)] encZ (fun ss=>ss.Perm (intKeys D0)) (Maps.size D0) (w.alloc (.cells #[.map (some b)] 83)):=
  AnyZI.keys_gives (ρ:=keysA_ren) {keysA with} Fence.wide _ trivial rfl (by omega) w.heap.size b nn D0 _ (by simp) (by simp) (by obtain⟨es,clock,hb,Ft,hs,hD⟩:=hown;exact⟨es,clock,(Below.heap_alloc _ _ b hbl).trans hb,Ft,hs,hD⟩)
 have cS:=AnyZI.sorted_in sortedA Fence.wide 5 trivial trivial trivial trivial rfl (by omega) (sortsA _) (enters_of Tryz.func58 (by kernel_rfl) rfl) 186 #[.pointer (some ⟨w.heap.size,0,none⟩)] trivial (enters_of Tryz.func186 (by kernel_rfl) rfl) _ _ hmax hbytes _ hseq;change CallsIn _ _ Tryz.prog 105 _ _ _ at cS;refine((callsIn_wide (n:=5)).1 cS).mono ?_;rintro e w' ⟨v,ss,rfl,hS,hrow,hnil,hb⟩;have hz:(w.alloc (.cells #[.map (some b)] 83)).heap.size=w.heap.size+1:=by simp
 rw[hz]at hrow hb;exact⟨v,ss,rfl,hS,hrow,hb⟩
end It
end Go.Proofs.YtomccaocggplgaaGreat
namespace Go.Proofs.YtomccaocggplgaaGreat
open Go.RowKit Go.Maps
namespace aH
def lQ(w:World)(b n:Nat)(s:Int->Bool):Prop:=
 ∃D:DataW Unit,w.ownsMap Tryz.prog 3 (plainElem Tryz.prog 4) b n D/\∀x,has D (.int .i64 x)=s x
theorem lQ.lt{w:World}{b n:Nat}{s:Int->Bool}(h:lQ w b n s):b<w.heap.size:=by obtain⟨D,h,_⟩:=h;exact h.lt
theorem lQ.mono{w:World}{b n n':Nat}{s:Int->Bool}(h:lQ w b n s)(hn:n<=n'):lQ w b n' s:=by obtain⟨D,ho,hD⟩:=h;exact⟨D,ho.mono hn,hD⟩
theorem lQ.store{w:World}{b n:Nat}{s:Int->Bool}(h:lQ w b n s)(hn:n<maxLen){x:Int}(hx:I64 x):
  ∃w',(Instr.mapUpdate 83 (.map (some b)) (.int .i64 x) (.bool true)).run Tryz.prog w=.ok () w'/\lQ w' b (n+1) (fun y=>decide (y=x)||s y)/\w.grownBy w' (some b):=by
 obtain⟨D,ho,hD⟩:=h;obtain⟨w',hrun,ho',hg⟩:=ho.update kE Tryz.underlying83 hn (qI hx) (plainElem_bool Tryz.underlying4 true);refine⟨w',hrun,⟨_,ho',?_⟩,hg⟩;intro y;have hm:IsMap D:=ho.isMap;have hl:WideAt.IsKeyLit (.int .i64 x):=by trivial
 by_cases e:y=x
 ·subst e;rw[has_put_same hm hl];simp
 ·have hne:(Lit.int .i64 y)≠ .int .i64 x:=fun h=>e (by injection h);rw[has_put_other hne,hD y];simp[e]
theorem lQ.kept{F:Nat->Prop}{w w':World}{b n:Nat}{s:Int->Bool}(h:lQ w b n s)(hk:Kept F w w')(hf:¬F b):lQ w' b n s:=by obtain⟨D,ho,hD⟩:=h;have hlt:=ho.lt;obtain⟨es,clock,hb,hF,hs,e⟩:=ho;exact⟨D,⟨es,clock,(hk.block b hlt hf).trans hb,hF,hs,e⟩,hD⟩
theorem lQ.made(w:World):lQ (w.alloc (.map #[] 0)) w.heap.size 0 (fun _=>false):=
 ⟨_,World.ownsMap_made w _ _ _,fun x=>rfl⟩
def cu(m:Safe)(ps:List Pc)(x:Int):Bool:=(m x).isSome||ps.any fun p=>decide (p.1=x)
theorem ag5{w:World}{b n:Nat}{R:Value->Option (DataW Unit×List MemPlace)}{D:DataW Unit}(hown:w.ownsMap Tryz.prog 3 R b n D):(intKeys D).Nodup/\∀x,x∈intKeys D↔has D (.int .i64 x)=true:=by
 obtain⟨es,hD,hpw,_⟩:=hown.entries kE;obtain⟨es',hD',hko⟩:=hown.keysOf;obtain rfl:es=es':=by rw[hD]at hD';simpa using hD'
 subst hD;have hk:∀p∈es,∃x,p.1=.int .i64 x:=fun p hp=>by obtain⟨v,hv⟩:=hko p hp;obtain⟨x,_,hx,_⟩:=Maps.keyOf_i64 Tryz.underlying3 hv;exact⟨x,hx⟩
 refine⟨?_,fun x=> ?_⟩
 ·show(es.map fun p=>Go.intOf p.1).Nodup;refine List.pairwise_map.2 (hpw.imp_of_mem fun{p q} hp' hq' hne e=>hne ?_);obtain⟨a,ha⟩:=hk p hp';obtain⟨b,hb⟩:=hk q hq';rw[ha,hb]at e⊢;exact congrArg _ e
 ·rw[has_eq,List.any_eq_true];show x∈es.map (fun p=>Go.intOf p.1)↔_;rw[List.mem_map];constructor
  ·rintro⟨p,hp',rfl⟩;obtain⟨a,ha⟩:=hk p hp';exact⟨p,hp',by rw[ha];simp[Lit.sameKey,Go.intOf]⟩
  ·rintro⟨p,hp',hs⟩;obtain⟨a,ha⟩:=hk p hp';rw[ha]at hs;exact⟨p,hp',by rw[ha];simpa [Lit.sameKey,Go.intOf,eq_comm]using hs⟩
structure Dc(m:Safe)(ps:List Pc)(fl:List Int):Prop where
 rises:fl.Pairwise (· <·)
 mem:∀x,x∈fl↔I64 x/\cu m ps x=true
def Yq(w:World)(m:Safe)(ps:List Pc)(e:Ending)(w':World):Prop:=
 ∃fl A c,e=.returned (.slice A fl.length c)/\Dc m ps fl/\w'.ownsRow 0 3 1 (.slice A fl.length c) fl.length (fl.map (Value.int .i64))/\(∀k,(Value.slice A fl.length c).ownBlock=some k->w.heap.size<=k)/\Kept aj w w'
variable{F:Nat->Prop}{w:World}{g n:Nat}{m:Safe}{ps:List Pc}{aX aQ:Int}
theorem pZ(h:aZ w g F n m ps aX aQ)(hpi:∀p∈ps,I64 p.1)(hn:n<=100000)(hlen:ps.length<=100000):
  Calls Tryz.prog 52 #[.pointer (some ⟨g,0,none⟩)] w (Yq w m ps):=by
 have hno:=dZ h;have HN:=ah hno;clear hno;obtain⟨mb,A,c,hF,hg,hm,ho⟩:=h;obtain⟨D0,hown0,hD0⟩:=hm;have HD0:=ah hD0;clear hD0;have c0:w.cell? ⟨g,0,none⟩=some (.map (some mb)):=hg.cell 0;have hgl:=hg.lt;have hown1:=hown0.alloc (.map #[] 0);have hml:=hown0.lt;have HG:=ah hg;clear hg;have HS:=ah (Src.bF ho);clear ho;have vw:=ah hpi;clear hpi;have hmk:= @run_makeMap Tryz.prog;have hsz0:=hown0.size_le;clear hF hown0;go_enter Tryz.func52,Tryz.ntmps52;go_wp2_with fail;refine HN.out.mono ?_;rintro e w' ⟨rfl,rfl⟩;have HW0:=ah ((Kept.refl aj w).alloc (.map #[] 0));have LX:=ah (lQ.made w)
 go_wp2_with (first
  |(at_range;refine wpList_range_own _ rfl _ 61 rfl 3 9 kE Tryz.underlying61 _ mb _ _ rfl hown1 ?_;intro w0 hrg0 hg0 hs0)
  |go_in)
 go_frame;clear hmk;have afy:(w.alloc (.map #[] 0)).heap.size=w.heap.size+1:=by simp
 rw[afy]at hrg0 hs0⊢;have hk0:Kept aj w w0:=HW0.out.grownBy hg0 (fun k hk=>by cases hk);have hm0:lQ w0 w.heap.size 0 (fun x=>has D0 (.int .i64 x)&& !has D0 (.int .i64 x)):=by
  have e:(fun x:Int=>has D0 (.int .i64 x)&& !has D0 (.int .i64 x))=fun _=>false:=by funext x;cases has D0 (.int .i64 x)<;>rfl
  rw[e];exact LX.out.kept ((Kept.refl aj _).grownBy hg0 (fun k hk=>by cases hk)) (fun x=>x)
 have bf:=ah hk0;clear hk0;have gU:=ah hm0;clear hm0;clear hg0 hs0 afy;go_loopw [4] (fun v4 wr=>∃(left:Lit->Bool) (cnt na:Nat),wr.ranges Tryz.prog 3 (plainElem Tryz.prog 9) mb (w.heap.size+1) n D0 left cnt/\na+cnt<=Maps.size D0/\lQ wr w.heap.size na (fun x=>has D0 (.int .i64 x)&& !left (.int .i64 x))/\Kept aj w wr) (fun _ wr=>wr.rangeLeft mb (w.heap.size+1))
 case atStart=>exact⟨_,_,0,hrg0,by simp,gU.out,bf.out⟩
 case round=>
  obtain⟨left,cnt,na,hrg,hcs,hse,hk⟩:=hrel;have yB:=ah hse;clear hse;have HK:=ah hk;clear hk;have hsz:=HK.out.size
  go_wp2_with (first
   |(at_next;refine wpList_next_ranges _ rfl _ rfl 3 kE (plainElem Tryz.prog 9) encZ (fun v:Value=>v) (fun key kl hk=>by obtain⟨x,hx,_⟩:=Maps.keyOf_i64 Tryz.underlying3 hk;exact⟨x,hx⟩) (fun v y hv=>⟨v,rfl⟩) mb (w.heap.size+1) n _ _ _ rfl hrg ?_ ?_)
   |go_in)
  ·intro hc0 hl0;have Ph:lQ wr w.heap.size n (fun x=>has D0 (.int .i64 x)||([]:List Pc).any fun p=>decide (p.1=x)):=by
    have e:(fun x:Int=>has D0 (.int .i64 x)&& !left (.int .i64 x))=fun x=>has D0 (.int .i64 x)||([]:List Pc).any fun p=>decide (p.1=x):=by funext x;rw[hl0];simp
    rw[<-e];exact yB.out.mono (by omega)
   have ahF:=ah Ph;clear Ph yB;have c1:wr.cell? ⟨g,1,none⟩=some (.slice A ps.length c):=(HG.out.kept HK.out (fun x=>x)).cell 1;clear hrg hl0;obtain⟨w1,hw1⟩:∃w1:World,w1=wr:=⟨_,rfl⟩;subst hw1;go_wp2_with fail;go_loopw [6,26] (fun v6 v26 wr=>∃i:Nat,i<=ps.length/\v26=.int .i64 i/\lQ wr w.heap.size (n+i) (fun x=>has D0 (.int .i64 x)||(ps.take i).any fun p=>decide (p.1=x))/\Kept aj w wr) (fun _ v26 _=>ps.length-(RowKit.intOf v26).toNat)
   case atStart=>exact⟨0,Nat.zero_le _,rfl,ahF.out,HK.out⟩
   case round=>
    obtain⟨i,hi,rfl,hse,hk⟩:=hrel;have yB:=ah hse;clear hse;have HK:=ah hk;clear hk;have hsz:=HK.out.size;by_cases hil:i<ps.length
    ·obtain⟨q,hq⟩:∃q,ps[i]? =some q:=⟨_,lB0 hil⟩;obtain⟨ad,rfl,hl1,e0,e1⟩:=C9 (HS.out.kept HK.out (fun _ _ x=>x)) (by omega) i q hq;have hq1:I64 q.1:=vw.out q (lC0 hq);have hwl:=yB.out.lt;obtain⟨w3,hst,Pj,hg3⟩:=lQ.store (w:=wr.alloc (.cells #[.int .i64 q.1,.string q.2] 88)) (yB.out.kept ((Kept.refl aj _).alloc _) (fun x=>x)) (by unfold maxLen;omega) hq1;have Pm:lQ w3 w.heap.size (n+(i+1)) (fun x=>has D0 (.int .i64 x)||(ps.take (i+1)).any fun p=>decide (p.1=x)):=by
      have e:(fun y:Int=>decide (y=q.1)||(has D0 (.int .i64 y)||(ps.take i).any fun p=>decide (p.1=y)))=fun y=>has D0 (.int .i64 y)||(ps.take (i+1)).any fun p=>decide (p.1=y):=by
       funext y;rw[take_snoc hq,List.any_append];by_cases hy:y=q.1
       ·subst hy;simp
       ·have hy':¬q.1=y:=fun h=>hy h.symm;simp[hy,hy']
      rw[<-e];exact Pj
     have hk3:Kept aj w w3:=(HK.out.alloc _).grownBy hg3 (fun k hk=>by injection hk with hk;exact .inr (by omega));have aby:=ah Pm;clear Pm Pj;have bu:=ah hk3;clear hk3 hg3;obtain⟨q1,q2⟩:=q;dsimp only at e0 e1 hst;clear hq hq1;go_wp2_with fail;go_roundw
     case rel=>exact⟨i+1,by omega,by go_num,aby.out,bu.out⟩
     case measure=>simp[RowKit.intOf];omega
    ·obtain rfl:i=ps.length:=by omega
     rw[List.take_length]at yB;obtain⟨D,Jm,hDs⟩:=yB.out;have hDz:=Jm.size_le;have hkz:=ag5 Jm;have hwf:=intKeys_wf Jm Tryz.underlying3;go_wp2_with fail;refine(It.abx _ _).mono ?_;rintro e w' ⟨rfl,rfl⟩;go_wp2_with fail;refine(It.Vb w.heap.size _ D _ wr Jm (by unfold maxLen;omega) (by omega)).mono ?_;rintro e w2 ⟨v,ss,rfl,hperm,hrow,hb2⟩;obtain⟨A',c',rfl,hcc⟩:=Ci hrow;have hfa:Dc m ps (ss.mergeSort leI):=by
      have tr:∀a b c:Int,leI a b=true->leI b c=true->leI a c=true:=fun a b c h1 h2=>by simp only[leI,decide_eq_true_eq]at*;exact Int.le_trans h1 h2
      have to:∀a b:Int,(leI a b||leI b a)=true:=fun a b=>by simp only[leI,Bool.or_eq_true,decide_eq_true_eq];exact Int.le_total a b
      have h1:=List.pairwise_mergeSort tr to ss;have h2:(ss.mergeSort leI).Nodup:=(List.mergeSort_perm ss leI).nodup_iff.2 (hperm.nodup_iff.2 hkz.1);refine⟨(h1.and h2).imp fun{a b} h=>by have:=h.1;simp only[leI,decide_eq_true_eq]at this;have:=h.2;omega,fun x=> ?_⟩;rw[List.mem_mergeSort,hperm.mem_iff,hkz.2 x,hDs x];constructor
      ·intro hx;have hi:I64 x:=hwf x ((hkz.2 x).2 (by rw[hDs x];exact hx));refine⟨hi,?_⟩;rw[(HD0.out x hi).1]at hx;exact hx
      ·rintro⟨hi,hx⟩;rw[(HD0.out x hi).1];exact hx
     have hrow0:w2.ownsRow 0 3 1 (.slice A' ss.length c') ss.length ((ss.mergeSort leI).map (Value.int .i64)):=⟨hrow.1,hrow.2.imp id fun⟨g,cap,cur,a,_,c⟩=>⟨g,cap,cur,a,Nat.zero_le _,c⟩⟩;have hnew:=hrow.lt;have hk2:Kept aj w w2:=(HK.out.alloc _).then (Kept.of_below (hb2.mono (B':=wr.heap.size+1) (Nat.le_refl _)) (fun k hk _=>by simpa using hk));have hlen2:(ss.mergeSort leI).length=ss.length:=List.length_mergeSort _;have bZ:=ah hrow0;clear hrow0 hrow;have gI:=ah hnew;clear hnew;have EL:=ah hfa;clear hfa;have aV:=ah hk2;clear hk2;have lH:=ah hlen2;clear hlen2;clear hperm hkz hwf hDs hb2 Jm hcc;go_wp2_with fail;go_ret;exact⟨ss.mergeSort leI,A',c',by rw[lH.out];rfl,EL.out,by rw[lH.out];exact bZ.out,by rw[lH.out];exact fun k hk=>by have:=(gI.out k hk).1;omega,aV.out⟩
  ·intro x cb kl yd yp w2 cnt2 hkey hlk hv hat hrg2 hlt hg2 hs2 hen;obtain⟨x',ex,rfl,hxw⟩:=Maps.keyOf_i64 Tryz.underlying3 hkey;obtain rfl:x=x':=encZ_inj ex;have hk2:Kept aj w w2:=HK.out.grownBy hg2 (fun k hk=>by injection hk with hk;exact .inr (by omega));have Ph:lQ w2 w.heap.size na (fun x=>has D0 (.int .i64 x)&& !left (.int .i64 x)):=yB.out.kept ((Kept.refl (fun k=>k=w.heap.size+1) wr).grownBy hg2 (fun k hk=>by injection hk with hk;exact .inl hk.symm)) (by omega);obtain⟨w3,hst,Pj,hg3⟩:=Ph.store (by unfold maxLen;omega) hxw;have hhas:has D0 (.int .i64 x)=true:=has_true_of_atKey hat;have Pm:lQ w3 w.heap.size (na+1) (fun y=>has D0 (.int .i64 y)&& !(left (.int .i64 y)&& !(Lit.int .i64 y).sameKey (.int .i64 x))):=by
    have e:(fun y:Int=>decide (y=x)||(has D0 (.int .i64 y)&& !left (.int .i64 y)))=fun y=>has D0 (.int .i64 y)&& !(left (.int .i64 y)&& !(Lit.int .i64 y).sameKey (.int .i64 x)):=by
     funext y;by_cases hy:y=x
     ·subst hy;simp[hhas,Lit.sameKey]
     ·simp[hy,Lit.sameKey]
    rw[<-e];exact Pj
   have hrg3:=hrg2.kept hg3 (fun e=>by have:=Option.some.inj e;omega) (fun e=>by have:=Option.some.inj e;omega);have hk3:Kept aj w w3:=hk2.grownBy hg3 (fun k hk=>by injection hk with hk;exact .inr (by omega));have aby:=ah Pm;clear Pm Pj Ph;have bu:=ah hk3;clear hk3 hk2;clear hs2 hkey hv hat hhas hg3;unfold encZ at hen;go_wp2_with fail;go_roundw
   case rel=>exact⟨_,cnt2,na+1,hrg3,by omega,aby.out,bu.out⟩
   case measure=>rw[hrg3.left_eq,hrg.left_eq];exact hlt

/- Part 26 of what the proof needs. -/
import Derived.Test.YtolkgbafebehfaaGreatZP02
import Derived.StillTailTactics
import Derived.Ground.Names2Prog
set_option linter.unusedSimpArgs false
set_option linter.unusedVariables false
set_option maxHeartbeats 32000000
set_option maxRecDepth 100000
namespace Go.Proofs.YtolkgbafebehfaaGreat
open Go.RowKit Go.Maps
set_option maxRecDepth 100000
namespace aJ
abbrev Safe:=Int->Option ByteArray
def dY(m:Safe)(k:Int):ByteArray:=(m k).getD ⟨#[]⟩
def oJ(m:Safe)(k:Int)(s:ByteArray):Safe:=fun i=>if i=k then some s else m i
def I64(k:Int):Prop:=(Lit.int .i64 k).wf=true
theorem jy:Keyed Tryz.prog 3:=int_keyed Tryz.underlying3
theorem pF{k:Int}(h:I64 k):keyOf Tryz.prog 3 (.int .i64 k)=some (.int .i64 k):=keyOf_int_mk Tryz.underlying3 h
def gJ(w:World)(b n:Nat)(m:Safe):Prop:=
 ∃D:DataW Unit,w.ownsMap Tryz.prog 3 (plainElem Tryz.prog 9) b n D/\∀k,I64 k->has D (.int .i64 k)=(m k).isSome/\D.atKey (.int .i64 k) (.lit (.string []))=.lit (.string (dY m k).data.toList)
theorem gJ.lt{w:World}{b n:Nat}{m:Safe}(h:gJ w b n m):b<w.heap.size:=by
 obtain⟨D,h,_⟩:=h
 exact h.lt
theorem gJ.kept{F:Nat->Prop}{w w':World}{b n:Nat}{m:Safe}(h:gJ w b n m)(hk:Kept F w w')(hf:¬F b):gJ w' b n m:=by
 obtain⟨D,ho,hD⟩:=h
 have hlt:=ho.lt
 obtain⟨es,clock,hb,hF,hs,e⟩:=ho
 exact⟨D,⟨es,clock,(hk.block b hlt hf).trans hb,hF,hs,e⟩,hD⟩
theorem gJ.made(w:World):gJ (w.alloc (.map #[] 0)) w.heap.size 0 (fun _=>none):=
 ⟨_,World.ownsMap_made w _ _ _,fun k hk=>⟨rfl,rfl⟩⟩
theorem gJ.look{w:World}{b n:Nat}{m:Safe}(h:gJ w b n m){k:Int}(hk:I64 k):
  (Instr.lookup 101 (.map (some b)) (.int .i64 k) false).run Tryz.prog w=.ok (.string (dY m k)) w/\(dY m k).size<=maxLen:=by
 obtain⟨D,ho,hD⟩:=h
 obtain⟨v,ps,hrun,hv⟩:=ho.lookup jy Tryz.underlying101 (z:=.string ⟨#[]⟩) (by rfl) (zd:=.lit (.string [])) (zp:=[]) (plainElem_string Tryz.underlying9 (by decide)) (pF hk)
 rw[(hD k hk).2]at hv
 unfold plainElem at hv
 rw[Tryz.underlying9]at hv
 rw[hrun]
 cases v<;>simp at hv
 case string s=>
  obtain⟨h1,h2,_⟩:=hv
  have e:s=dY m k:=ByteArray.ext h2
  subst e
  exact⟨rfl,h1⟩
theorem gJ.store{w:World}{b n:Nat}{m:Safe}(h:gJ w b n m)(hn:n<maxLen){k:Int}(hk:I64 k)(s:ByteArray)(hs:s.size<=maxLen):
  ∃w',(Instr.mapUpdate 101 (.map (some b)) (.int .i64 k) (.string s)).run Tryz.prog w=.ok () w'/\gJ w' b (n+1) (oJ m k s)/\Kept (fun i=>i=b) w w':=by
 obtain⟨D,ho,hD⟩:=h
 obtain⟨w',hrun,ho',hg⟩:=ho.update jy Tryz.underlying101 hn (pF hk) (plainElem_string Tryz.underlying9 hs)
 refine⟨w',hrun,⟨_,ho',?_⟩,(Kept.refl _ _).grownBy hg fun i hi=>by injection hi with hi;exact .inl hi.symm⟩
 intro i hi
 have hm:IsMap D:=ho.isMap
 have hl:WideAt.IsKeyLit (.int .i64 k):=by trivial
 by_cases e:i=k
 ·subst e
  rw[has_put_same hm hl,atKey_put_same hm hl]
  simp[oJ,dY]
 ·have hne:(Lit.int .i64 i)≠ .int .i64 k:=fun h=>e (by injection h)
  rw[has_put_other hne,atKey_put_other hne]
  have:=hD i hi
  simpa [oJ,dY,e]using this
end aJ
end Go.Proofs.YtolkgbafebehfaaGreat
namespace Go.Proofs.YtolkgbafebehfaaGreat
open Go.RowKit
set_option maxRecDepth 100000
namespace aJ
abbrev Pc:=Int×ByteArray
def aK(ps:List Pc):List Value:=ps.flatMap fun p=>[.int .i64 p.1,.string p.2]
theorem qH(a b:List Pc):aK (a++b)=aK a++aK b:=by simp[aK]
theorem SE(a:List Pc)(k:Nat)(p:Pc)(h:a[k]? =some p):(aK a)[k*2]? =some (.int .i64 p.1)/\(aK a)[k*2+1]? =some (.string p.2):=by
 have hk:∀j,j<2->(aK a)[k*2+j]? =([Value.int .i64 p.1,.string p.2])[j]? :=by
  intro j hj
  unfold aK
  rw[flat_get (fun p:Pc=>[Value.int .i64 p.1,.string p.2]) 2 (by decide) (fun _=>rfl),show(k*2+j)/2=k by omega,show(k*2+j)%2=j by omega,h]
  rfl
 exact⟨hk 0 (by decide),hk 1 (by decide)⟩
theorem aaI:Elem Tryz.prog 102 118 2 24:=by
 obtain⟨i0,hi,hz0,hz1,hz2⟩:=info_parts (show(Tryz.prog.info? 118).map (fun i=>(i.zero,i.size,i.bytes))=some (some (.agg #[.int .i64 0,.string ⟨#[]⟩]),2,24) by kernel_rfl)
 exact⟨Tryz.underlying102,⟨i0,_,hi,hz0,hz1,hz2,rfl⟩,by decide⟩
def aX(w:World)(g:Nat)(F:Nat->Prop)(n:Nat)(m:Safe)(ps:List Pc)(aV aO:Int):Prop:=
 ∃mb A c,(∀k,F k↔k=g\/k=mb\/(Value.slice A ps.length c).ownBlock=some k)/\Has w g 104 #[.map (some mb),.slice A ps.length c,.int .i64 aV,.int .i64 aO]/\gJ w mb n m/\w.ownsRow 0 118 2 (.slice A ps.length c) ps.length (aK ps)
theorem gJ.ne{w:World}{b n g:Nat}{m:Safe}{t:TypeId}{cs:Array Value}(h:gJ w b n m)(hg:Has w g t cs):b≠g:=by
 rintro rfl
 obtain⟨D,⟨es,clock,hb,_⟩,_⟩:=h
 unfold Has at hg
 rw[hg]at hb
 cases hb
theorem gJ.AQ{w:World}{b n base k s:Nat}{m:Safe}{e:TypeId}{v:Value}{xs:List Value}(h:gJ w b n m)(hr:w.ownsRow base e s v k xs):v.ownBlock≠some b:=by
 obtain⟨D,⟨es,clock,hb,_⟩,_⟩:=h
 obtain⟨_,⟨rfl,_⟩|⟨g,cap,cur,rfl,_,hg,_⟩⟩:=hr
 ·simp[Value.ownBlock]
 ·intro e
  injection e with e
  simp at e
  subst e
  rw[hg]at hb
  cases hb
theorem aX.kept{F G:Nat->Prop}{w w':World}{g n:Nat}{m:Safe}{ps:List Pc}{aV aO:Int}(h:aX w g F n m ps aV aO)(hk:Kept G w w')(hs:Sep F G):aX w' g F n m ps aV aO:=by
 obtain⟨mb,A,c,hF,hg,hm,ho⟩:=h
 exact⟨mb,A,c,hF,hg.kept hk (hs _ ((hF _).2 (.inl rfl))),hm.kept hk (hs _ ((hF _).2 (.inr (.inl rfl)))),aC ho hk fun k hk'=>hs k ((hF k).2 (.inr (.inr hk')))⟩
theorem aX.lt{F:Nat->Prop}{w:World}{g n:Nat}{m:Safe}{ps:List Pc}{aV aO:Int}(h:aX w g F n m ps aV aO):∀k,F k->k<w.heap.size:=by
 obtain⟨mb,A,c,hF,hg,hm,ho⟩:=h
 intro k hk
 rcases(hF k).1 hk with rfl|rfl|h
 ·exact hg.lt
 ·exact hm.lt
 ·exact ou ho h
def aaJ(w:World)(g:Nat)(F:Nat->Prop)(v:Value)(n:Nat)(m:Safe)(ps:List Pc)(aV aO:Int)(e:Ending)(w':World):Prop:=
 e=.returned v/\∃F',aX w' g F' n m ps aV aO/\iH w F F'/\Kept F w w'
section
variable{F:Nat->Prop}{w:World}{g n:Nat}{m:Safe}{ps:List Pc}{aV aO:Int}
theorem dN(h:aX w g F n m ps aV aO):
  Calls Tryz.prog 71 #[.pointer (some ⟨g,0,none⟩)] w fun e w'=>e=.returned (.bool false)/\w=w':=by
 obtain⟨mb,A,c,hF,hg,hm,ho⟩:=h
 have c0:w.cell? ⟨g,0,none⟩=some (.map (some mb)):=hg.cell 0
 clear hF hg hm ho
 have hnil:∀W:World,(binOp .eql 101 (.map (some mb)) (.map none)).run Tryz.prog W=.ok (.bool false) W:=fun W=>run_eql_map_nil W _ _ _ _ Tryz.underlying101
 go_enter Tryz.func71,Tryz.ntmps71
 go_wp2
 go_ret
 exact⟨rfl,rfl⟩
end
theorem new_any(w:World):Calls Tryz.prog 11 #[] w fun e w'=>∃g F,e=.returned (.pointer (some ⟨g,0,none⟩))/\aX w' g F 0 (fun _=>none) [] 1 1/\Kept aj w w'/\(∀k,F k->w.heap.size<=k):=by
 have hmk:= @run_makeMap Tryz.prog
 go_enter Tryz.func11,Tryz.ntmps11
 go_wp2
 go_ret
 refine⟨w.heap.size+1,fun k=>k=w.heap.size+1\/k=w.heap.size\/(Value.slice none 0 0).ownBlock=some k,?_,⟨w.heap.size,none,0,fun _=>Iff.rfl,?_,?_,?_⟩,?_,?_⟩
 ·rfl
 ·exact Has.bP _ _ _ (by rw[size_alloc])
 ·exact(gJ.made w).kept (Kept.refl aj _|>.alloc _) (fun x=>x)
 ·exact⟨rfl,.inl ⟨rfl,rfl⟩⟩
 ·exact((Kept.refl _ _).alloc _).alloc _
 ·rintro k (rfl|rfl|h)
  ·omega
  ·omega
  ·cases h
end aJ
namespace aJ
variable{F:Nat->Prop}{w:World}{g n:Nat}{m:Safe}{ps:List Pc}{aV aO:Int}
theorem WB(h:aX w g F n m ps aV aO)(f:Int)(s:ByteArray)(hf:1<=f)(hf2:f<=1073741824)(hlen:ps.length<=100000):
  Calls Tryz.prog 303 #[.pointer (some ⟨g,0,none⟩),.int .i64 f,.string s] w (aaJ w g F (.int .i64 0) n m (ps++[(f,s)]) aV aO):=by
 have hn:=dN h
 have HN:=ah hn;clear hn
 obtain⟨mb,A,c,hF,hg,hm,ho⟩:=h
 have c1:w.cell? ⟨g,1,none⟩=some (.slice A ps.length c):=hg.cell 1
 have f1:=hg.frozen 1
 have hgl:=hg.lt
 have hne:=hm.ne hg
 have hnr:=own_ne ho hg (by decide)
 have HG:=ah hg;clear hg
 have HM:=ah hm;clear hm
 have HO:=ah ho;clear ho
 have HF:=ah hF;clear hF
 go_enter Tryz.func303,Tryz.ntmps303
 go_wp2_with fail
 refine HN.out.mono ?_
 rintro e w' ⟨rfl,rfl⟩
 have hone:∀u∈([.int .i64 f,.string s]:List Value),u.oneCell'=true:=by
  intro u hu
  simp at hu
  rcases hu with rfl|rfl<;>rfl
 have hM:ps.length+1<=maxLen:=by unfold maxLen;omega
 have hY:(ps.length+1)*24<=140737488355328:=by omega
 have sQ:=ah hone;clear hone
 have HMX:=ah hM;clear hM
 have HY:=ah hY;clear hY
 go_wp2_with (at_builtin;refine aI aaI (.tmp 21) (.tmp 25) rfl rfl (Value.slice A ps.length c) rfl (aC HO.out (F:=aj) ((Kept.refl _ _).alloc _) (fun _ _ x=>x)) 1 rfl (Src.bW (m:=1) (Has.new w 118 #[.int .i64 f,.string s]) rfl) sQ.out HMX.out HY.out ?_;intro A1 c1' w1 ho1 hg1 ha1;have hg1':=(HG.out.alloc (Obj.cells #[.int .i64 f,.string s] 118)).grown hg1 hnr;have d1:=hg1'.cell 1;have k1:=hg1'.frozen 1)
 go_ret
 have hk1:Kept F w w1:=((Kept.refl F w).alloc _).grown hg1 (fun k hk=> .inl ((HF.out k).2 (.inr (.inr hk))))
 have hkm:Kept (fun k=>(Value.slice A ps.length c).ownBlock=some k) w w1:=((Kept.refl _ w).alloc _).grown hg1 (fun k hk=> .inl hk)
 have hne1:∀k,(Value.slice A1 (ps.length+1) c1').ownBlock=some k->k≠g:=fun k hk e=>by
  subst e
  exact own_ne ho1 hg1' (by decide) hk
 refine⟨rfl,fun k=>k=g\/k=mb\/(Value.slice A1 (ps.length+1) c1').ownBlock=some k,⟨mb,A1,c1',fun _=>by simp,?_,?_,?_⟩,?_,?_⟩
 ·have:=hg1'.put 1 (.slice A1 (ps.length+1) c1')
  simpa using this
 ·exact(HM.out.kept hkm (HM.out.AQ HO.out)).kept (F:=fun k=>k=g) ((Kept.refl _ _).put (.inl rfl)) hne
 ·have:=aC ho1 (F:=fun k=>k=g) ((Kept.refl _ _).put (i:=1) (u:=.slice A1 (ps.length+1) c1') (.inl rfl)) hne1
  rw[qH]
  simpa [aK]using this
 ·rintro k (rfl|rfl|hk)
  ·exact .inl ((HF.out _).2 (.inl rfl))
  ·exact .inl ((HF.out _).2 (.inr (.inl rfl)))
  ·rcases ha1 with e|e
   ·exact .inl ((HF.out _).2 (.inr (.inr (e▸hk))))
   ·rw[hk]at e
    injection e with e
    exact .inr (by rw[e];simp)
 ·exact hk1.put (.inl ((HF.out _).2 (.inl rfl)))
end aJ
namespace aJ
variable{F:Nat->Prop}{w:World}{g n:Nat}{m:Safe}{ps:List Pc}{aV aO:Int}
def total(ps:List Pc):Nat:=(ps.map fun p=>p.2.size).sum
theorem pX(ps:List Pc)(p:Pc):total (ps++[p])=total ps+p.2.size:=by simp[total]
theorem zi(ps:List Pc)(i:Nat):total (ps.take i)<=total ps:=by
 have:ps=ps.take i++ps.drop i:=(List.take_append_drop i ps).symm
 conv=>rhs;rw[this]
 simp only[total,List.map_append,List.sum_append]
 omega
theorem take_snoc{α:Type}{l:List α}{i:Nat}{p:α}(h:l[i]? =some p):l.take (i+1)=l.take i++[p]:=by
 rw[List.take_add_one,h];rfl
theorem zk{w:World}{A:Option Addr}{k:Nat}{ps:List Pc}(h:Src w 2 A k (aK ps))(hm:0<k)(i:Nat)(p:Pc)(hp:ps[i]? =some p):
  ∃ad,A=some ad/\ad.block<w.heap.size/\w.cell? (ad.add (i*2))=some (.int .i64 p.1)/\w.cell? ⟨(ad.add (i*2)).block,(ad.add (i*2)).off+1,none⟩=some (.string p.2):=by
 obtain⟨ad,rfl,had,hcell⟩:=h.2 hm
 obtain⟨k0,k1⟩:=SE ps i p hp
 refine⟨ad,rfl,had,hcell _ _ k0,?_⟩
 rw[<-add_lit _ (by omega),add_add];exact hcell _ _ k1
theorem CS(h:aX w g F n m ps aV aO)(hlen:ps.length<=100000)(hsz:total ps<=4611686018427387904):
  Calls Tryz.prog 98 #[.pointer (some ⟨g,0,none⟩)] w fun e w'=>e=.returned (.int .i64 (total ps))/\Kept aj w w':=by
 have hn:=dN h
 have HN:=ah hn;clear hn
 obtain⟨mb,A,c,hF,hg,hm,ho⟩:=h
 have c1:w.cell? ⟨g,1,none⟩=some (.slice A ps.length c):=hg.cell 1
 have HS:=ah (Src.bC ho)
 clear hF hg hm ho
 go_enter Tryz.func98,Tryz.ntmps98
 go_wp2_with fail
 refine HN.out.mono ?_
 rintro e w' ⟨rfl,rfl⟩
 go_wp2_with fail
 go_loopw [3,5,13] (fun v3 v5 v13 wr=>∃i:Nat,i<=ps.length/\v13=.int .i64 i/\v3=.int .i64 (total (ps.take i))/\Kept aj w wr) (fun _ _ v13 _=>ps.length-(intOf v13).toNat)
 case atStart=>exact⟨0,Nat.zero_le _,rfl,by simp[total],Kept.refl _ _⟩
 case round=>
  obtain⟨i,hi,rfl,rfl,hk⟩:=hrel
  by_cases hil:i<ps.length
  ·obtain⟨q,hq⟩:∃q,ps[i]? =some q:=⟨_,List.getElem?_eq_getElem hil⟩
   have rJ:=HS.out.kept hk (fun _ _ x=>x)
   obtain⟨ad,rfl,hl1,d0,d1⟩:=zk rJ (by omega) i q hq
   have ht:=zi ps (i+1)
   rw[take_snoc hq,pX]at ht
   have HT:=ah (take_snoc hq)
   obtain⟨q1,q2⟩:=q
   dsimp only at d0 d1 ht
   clear hq rJ
   go_wp2
   go_roundw
   case rel=>exact⟨i+1,by omega,by go_num,by rw[HT.out,pX];go_num,hk.alloc _⟩
   case measure=>simp[intOf];omega
  ·obtain rfl:i=ps.length:=by omega
   go_wp2
   go_ret
   exact⟨by rw[List.take_length];rfl,hk⟩
end aJ
namespace aJ
variable{F:Nat->Prop}{w:World}{g n:Nat}{m:Safe}{ps:List Pc}{aV aO:Int}
theorem Has.setCells{b:Nat}{t:TypeId}:∀(vs:List Value) (o:Nat) (w:World) (cs:Array Value),Has w b t cs->∃cs',Has (w.setCells b o vs) b t cs'/\cs'.size=cs.size
 |[],_,_,cs,h=>⟨cs,h,rfl⟩
 |v::r,o,w,cs,h=>by
  obtain⟨cs',h',e⟩:=Has.setCells r (o+1) _ _ (h.put o v)
  exact⟨cs',h',by rw[e];simp⟩
theorem Kept.setCells{b:Nat}:∀(vs:List Value) (o:Nat) (w:World),Kept (fun k=>some b=some k) w (w.setCells b o vs)
 |[],_,w=>Kept.refl _ _
 |v::r,o,w=>Kept.then (F:=fun k=>some b=some k) ((Kept.refl _ w).put (g:=b) (i:=o) (u:=v) (.inl rfl)) (Kept.setCells r (o+1) _)
theorem SG{P:Program}{size:Nat}{v:Value}{n:Nat}{xs:List Value}{t e:TypeId}{z:Value}(h:w.ownsRow 0 e size v n xs)(ht:P.underlying t=some (.slice e))
  (hv:∀w,(zeroValue e).run P w=.ok z w) (hz:z.cells.size=size) (h0:0<size) (h1:∀u∈z.cells,u.oneCell'=true):
  ∃w',(∀ty,(Builtin.clear_ #[t] ty #[v]).run P w=.ok (.tuple #[]) w')/\Kept (fun k=>v.ownBlock=some k) w w'/\∀A c,v=.slice A n c->w'.ownsRow 0 e size (.slice A 0 c) 0 []:=by
 rcases h.2 with⟨rfl,rfl⟩|⟨g,cap,cur,rfl,hb,hg,hn,hm,hs,htk⟩
 ·refine⟨w,fun ty=>by simp[Builtin.clear_,run_underlying ht],Kept.refl _ _,?_⟩
  intro A c e
  injection e with e1 e2 e3
  subst e1
  subst e3
  exact⟨by simp,.inl ⟨rfl,rfl⟩⟩
 ·rcases Nat.eq_zero_or_pos n with rfl|hp
  ·refine⟨w,fun ty=>by simp[Builtin.clear_,run_underlying ht],Kept.refl _ _,?_⟩
   intro A c e
   injection e with e1 e2 e3
   subst e1
   subst e3
   exact⟨by simp,.inr ⟨g,cap,cur,rfl,hb,hg,hn,hm,hs,by simp⟩⟩
  ·have hlen:(Builtin.zeroCells z.cells n).toList.length=n*size:=by simp[Builtin.zeroCells,hz]
   have hle:n*size<=cap*size:=Nat.mul_le_mul_right _ hn
   have hH:Has w g e cur:=hg
   have hone:∀u∈(Builtin.zeroCells z.cells n).toList,u.oneCell'=true:=by
    intro u hu
    simp only[Builtin.zeroCells,Array.toList_map,List.mem_map]at hu
    obtain⟨i,_,rfl⟩:=hu
    have hlt:i%z.cells.size<z.cells.size:=Nat.mod_lt _ (by omega)
    rw[getElem!_pos z.cells _ hlt]
    exact h1 _ (Array.getElem_mem hlt)
   have hst:=run_storeCells_cells (P:=P) g 0 (Builtin.zeroCells z.cells n).toList 0 w
    (by intro j hj;rw[hlen]at hj;rw[show 0+0+j=j by omega,hH.cell,Array.getElem?_eq_getElem (by omega)];rfl)
    (by intro j hj;exact hH.frozen _) hone
   obtain⟨cs',hcs,hsz⟩:=Has.setCells (Builtin.zeroCells z.cells n).toList 0 w cur hH
   refine⟨_,fun ty=> ?_,Kept.setCells (Builtin.zeroCells z.cells n).toList 0 w,?_⟩
   ·obtain⟨m,rfl⟩:∃m,n=m+1:=⟨n-1,by omega⟩
    simp only[Nat.add_zero]at hst
    simp[Builtin.clear_,run_underlying ht,hv,hst]
   ·intro A c e
    injection e with e1 e2 e3
    subst e1
    subst e3
    exact⟨by simp,.inr ⟨g,cap,cs',rfl,hb,hcs,Nat.zero_le _,hm,by omega,by simp⟩⟩
theorem Ph(h:aX w g F n m ps aV aO):
  Calls Tryz.prog 72 #[.pointer (some ⟨g,0,none⟩)] w fun e w'=>e=.returned (.tuple #[])/\aX w' g F n m [] aV aO/\Kept F w w':=by
 obtain⟨mb,A,c,hF,hg,hm,ho⟩:=h
 obtain⟨w1,hcl,hk,hrow⟩:=SG ho Tryz.underlying102 (z:=.agg #[.int .i64 0,.string ⟨#[]⟩]) (by intro w;kernel_rfl) rfl (by decide) (by intro u hu;simp[Value.cells]at hu;rcases hu with rfl|rfl<;>rfl)
 have ho1:=hrow A c rfl
 have hnr:=own_ne ho hg (by decide)
 have hg1:Has w1 g 104 #[.map (some mb),.slice A ps.length c,.int .i64 aV,.int .i64 aO]:=hg.kept hk hnr
 have hm1:gJ w1 mb n m:=hm.kept hk (hm.AQ ho)
 have hne:=hm.ne hg
 have c0:w.cell? ⟨g,1,none⟩=some (.slice A ps.length c):=hg.cell 1
 have c1:w1.cell? ⟨g,1,none⟩=some (.slice A ps.length c):=hg1.cell 1
 have f1:=hg1.frozen 1
 have hsl:∀W:World,(Instr.slice 102 (.slice A ps.length c) none (some (.int .i64 0)) none).run Tryz.prog W=.ok (.slice A 0 c) W:=by
  intro W
  cases A<;>simp[go_sem,Tryz.underlying102]
 have hnn:(Value.slice A 0 c).ownBlock=(Value.slice A ps.length c).ownBlock:=by cases A<;>rfl
 have HK:=ah hk;clear hk
 have HG:=ah hg1;clear hg1 hg
 have HM:=ah hm1;clear hm1 hm
 have HO:=ah ho1;clear ho1 ho hrow
 have HF:=ah hF;clear hF
 have Yr:=ah hnn;clear hnn
 go_enter Tryz.func72,Tryz.ntmps72
 go_wp2
 go_end0
 refine⟨rfl,⟨mb,A,c,?_,?_,?_,?_⟩,?_⟩
 ·intro k
  rw[HF.out k,<-Yr.out]
  exact Iff.rfl
 ·((repeat (first|with_reducible exact HG.out|with_reducible apply Has.dB|with_reducible apply Has.past|with_reducible apply Has.drewN|with_reducible apply Has.drew|with_reducible apply Has.alloc))<;>first|omega|rfl)
 ·exact HM.out.kept (F:=fun k=>k=g) (by(repeat'(first|(with_reducible first|exact ak|apply au|apply ay|apply aA|apply aB)|(exact .inl rfl)|(right;simp;done)))) hne
 ·exact aC HO.out (F:=fun k=>k=g) (by(repeat'(first|(with_reducible first|exact ak|apply au|apply ay|apply aA|apply aB)|(exact .inl rfl)|(right;simp;done)))) fun k hk e=>hnr (Yr.out.symm.trans (hk.trans (by rw[e])))
 ·exact(HK.out.mono fun k hk=>(HF.out k).2 (.inr (.inr hk))).put (.inl ((HF.out _).2 (.inl rfl)))
def aaK(m:Safe)(left:Nat):List Pc->Safe
 |[]=>m
 |p::ps=>if left<p.2.size then (if left=0 then m else oJ m p.1 (dY m p.1++p.2.extract 0 left))else aaK (oJ m p.1 (dY m p.1++p.2)) (left-p.2.size) ps
theorem Gs(m:Safe)(k i:Int)(s:ByteArray):dY (oJ m k s) i=if i=k then s else dY m i:=by
 unfold dY oJ
 split<;>simp_all
theorem ZC{m:Safe}{Z:Nat}(h:∀k,(dY m k).size<=Z)(k:Int)(s:ByteArray)(i:Int):(dY (oJ m k (dY m k++s)) i).size<=Z+s.size:=by
 rw[Gs]
 split
 ·have:=h k
  simp
  omega
 ·have:=h i
  omega
theorem drop_cons{α:Type}{l:List α}{i:Nat}{p:α}(h:l[i]? =some p):l.drop i=p::l.drop (i+1):=by
 obtain⟨hi,e⟩:=List.getElem?_eq_some_iff.1 h
 rw[<-e]
 exact List.drop_eq_getElem_cons hi
theorem gJ.mono{b n':Nat}(h:gJ w b n m)(hn:n<=n'):gJ w b n' m:=by
 obtain⟨D,ho,hD⟩:=h
 exact⟨D,ho.mono hn,hD⟩
def kK(m:Safe):List Pc->Safe
 |[]=>m
 |p::ps=>kK (oJ m p.1 (dY m p.1++p.2)) ps
theorem Jz(h:aX w g F n m ps aV aO)(hpi:∀p∈ps,I64 p.1)(hlen:ps.length<=100000)(hn:n<=1000000)
  (Z:Nat) (hZ:∀k,(dY m k).size<=Z) (hsz:Z+total ps<=4611686018427387904):
  Calls Tryz.prog 111 #[.pointer (some ⟨g,0,none⟩)] w fun e w'=>e=.returned (.int .i64 (total ps))/\aX w' g F (n+ps.length) (kK m ps) [] aV aO/\Kept F w w':=by
 have hn:=dN h
 have HN:=ah hn;clear hn
 have hpe:∀W,Kept aj w W->_:=fun W hW=>CS (h.kept hW (fun _ _ x=>x)) hlen (by omega)
 have zK:=ah hpe;clear hpe
 obtain⟨mb,A,c,hF,hg,hm,ho⟩:=h
 have c0:w.cell? ⟨g,0,none⟩=some (.map (some mb)):=hg.cell 0
 have c1:w.cell? ⟨g,1,none⟩=some (.slice A ps.length c):=hg.cell 1
 have HG:=ah hg;clear hg
 have HM:=ah hm;clear hm
 have HO:=ah ho;clear ho
 have HF:=ah hF;clear hF
 have uY:=ah hpi;clear hpi
 have HZ:=ah hZ;clear hZ
 go_enter Tryz.func111,Tryz.ntmps111
 go_wp2_with fail
 refine HN.out.mono ?_
 rintro e w' ⟨rfl,rfl⟩
 go_wp2_with fail
 refine(zK.out _ (Kept.refl _ _)).mono ?_
 rintro e w0 ⟨rfl,hk0⟩
 have c1:w0.cell? ⟨g,1,none⟩=some (.slice A ps.length c):=(HG.out.kept hk0 (fun x=>x)).cell 1
 go_wp2_with fail
 go_loopw [5,15] (fun v5 v15 wr=>∃(i:Nat) (mi:Safe),i<=ps.length/\v15=.int .i64 i/\gJ wr mb (n+i) mi/\kK m ps=kK mi (ps.drop i)/\(∀k,(dY mi k).size<=Z+total (ps.take i))/\Kept (fun k=>k=mb) w wr) (fun _ v15 _=>ps.length-(intOf v15).toNat)
 case atStart=>exact⟨0,m,Nat.zero_le _,rfl,HM.out.kept hk0 (fun x=>x),rfl,by simpa [total]using HZ.out,hk0.mono fun _ x=>x.elim⟩
 case round=>
  obtain⟨i,mi,hi,rfl,uk,hcr,hzi,hk⟩:=hrel
  have hend:∀(W:World) (j:Nat) (mj:Safe),j<=ps.length->gJ W mb (n+j) mj->Kept (fun k=>k=mb) wr W->aX W g F (n+ps.length) mj ps aV aO/\Kept F w W:=by
   intro W j mj hj hmj hkW
   have hkk:=hk.then hkW
   refine⟨⟨mb,A,c,HF.out,HG.out.kept hkk (fun e=>HM.out.ne HG.out e.symm),hmj.mono (by omega),aC HO.out hkk ?_⟩,hkk.mono fun k e=>(HF.out k).2 (.inr (.inl e))⟩
   rintro k hkb rfl
   exact HM.out.AQ HO.out hkb
  have qm:=ah hend;clear hend
  have hkg:=HG.out.kept hk (fun e=>HM.out.ne HG.out e.symm)
  have d0:wr.cell? ⟨g,0,none⟩=some (.map (some mb)):=hkg.cell 0
  have hgl:=hkg.lt
  clear hkg
  by_cases hil:i<ps.length
  ·obtain⟨q,hq⟩:∃q,ps[i]? =some q:=⟨_,List.getElem?_eq_getElem hil⟩
   have rJ:=(Src.bC HO.out).kept hk (by rintro ad rfl e;exact HM.out.AQ HO.out (by rw[Value.ownBlock,e]))
   obtain⟨ad,rfl,hl1,e0,e1⟩:=zk rJ (by omega) i q hq
   clear rJ
   have ht:=zi ps (i+1)
   rw[take_snoc hq,pX]at ht
   have HT:=ah (take_snoc hq)
   rw[drop_cons hq]at hcr
   have hq1:I64 q.1:=uY.out q (List.mem_of_getElem? hq)
   have hmw:gJ (World.drew (wr.alloc (.cells #[.int .i64 q.1,.string q.2] 118))) mb (n+i) mi:=uk.kept ((Kept.refl aj _).alloc _).drew (fun x=>x)
   have hlk:=(hmw.look hq1).1
   have hsq:=hzi q.1
   obtain⟨q1,q2⟩:=q
   rw[kK]at hcr
   dsimp only at e0 e1 hq1 hmw hlk hsq ht hcr
   clear hq
   have HCR:=ah hcr;clear hcr
   have HZI:=ah hzi;clear hzi
   have HK:=ah hk;clear hk
   obtain⟨w2,hst,hm2,hk2⟩:=hmw.store (by unfold maxLen;omega) hq1 (dY mi q1++q2) (by unfold maxLen;simp;omega)
   have b1:w2.cell? ⟨wr.heap.size,1,none⟩=some (.string q2):=(((Has.new wr 118 #[.int .i64 q1,.string q2]).drew).kept hk2 (fun e=>by have:=uk.lt;omega)).cell 1
   clear hmw
   have hnl:¬9223372036854775807<(dY mi q1).size+q2.size:=by omega
   go_wp2_with fail
   refine wp_region_still_tail 10 (by kernel_rfl) (by kernel_rfl) ?_
   simp only[List.take_succ_cons,List.take_zero,List.drop_succ_cons,List.drop_zero]
   change wpStill _ _ (World.drew (wr.alloc _)) _ _ _
   repeat still_step
   refine wpStill_nil ?_
   change wpList _ _ _ _ _ (World.drew (wr.alloc _))
   go_wp2_with fail
   have acE:Kept (fun k=>k=mb) wr w2:=((Kept.refl _ _).alloc _).drew.then hk2
   have acF:∀k,(dY (oJ mi q1 (dY mi q1++q2)) k).size<=Z+total (ps.take (i+1)):=by
    intro k
    rw[HT.out,pX,<-Nat.add_assoc]
    exact ZC HZI.out q1 q2 k
   go_roundw
   case rel=>exact⟨i+1,_,by omega,by go_num,hm2,HCR.out,acF,HK.out.then acE⟩
   case measure=>simp[intOf];omega
  ·obtain rfl:i=ps.length:=by omega
   go_wp2_with fail
   obtain⟨hd1,hk1⟩:=qm.out wr ps.length _ (Nat.le_refl _) uk (Kept.refl _ _)
   refine(Ph hd1).mono ?_
   rintro e w4 ⟨rfl,hd2,hk3⟩
   go_wp2_with fail
   go_ret
   refine⟨rfl,?_,hk1.then hk3⟩
   have hz:=hcr
   rw[List.drop_length,kK]at hz
   rw[hz]
   exact hd2
end aJ
end Go.Proofs.YtolkgbafebehfaaGreat
namespace Go.Proofs.YtolkgbafebehfaaGreat
open Go.Shelf Go.RowKit
set_option maxRecDepth 100000
namespace Yv
def ren:Go.Shelf.Ren:=⟨fun|166=>186|169=>187|240=>300|276=>361|n=>n,fun|0=>0|3=>3|4=>4|5=>5|9=>9|20=>20|37=>246|70=>245|72=>248|75=>250|80=>253|127=>358|164=>418|n=>n,fun|n=>n⟩
theorem lays166:Go.Proofs.Lays.n166 Tryz.prog ren:={
 mixed:=by kernel_rfl
 f166:=Tryz.func186.trans (congrArg some (by kernel_rfl))
 f240:=Tryz.func300.trans (congrArg some (by kernel_rfl))
 f276:=Tryz.func361.trans (congrArg some (by kernel_rfl))
 t0:=Tryz.underlying0
 a0:=Tryz.isAgg0
 z0:=Tryz.sizeOf0
 v0:=Tryz.zeroValue0
 t3:=Tryz.underlying3
 a3:=Tryz.isAgg3
 z3:=Tryz.sizeOf3
 v3:=Tryz.zeroValue3
 t4:=Tryz.underlying4
 a4:=Tryz.isAgg4
 z4:=Tryz.sizeOf4
 v4:=Tryz.zeroValue4
 t9:=Tryz.underlying9
 a9:=Tryz.isAgg9
 z9:=Tryz.sizeOf9
 v9:=Tryz.zeroValue9
 t20:=Tryz.underlying20
 a20:=Tryz.isAgg20
 z20:=Tryz.sizeOf20
 v20:=Tryz.zeroValue20
 t37:=Tryz.underlying246
 a37:=Tryz.isAgg246
 z37:=Tryz.sizeOf246
 v37:=Tryz.zeroValue246
 t70:=Tryz.underlying245
 a70:=Tryz.isAgg245
 z70:=Tryz.sizeOf245
 v70:=Tryz.zeroValue245
 t72:=Tryz.underlying248
 a72:=Tryz.isAgg248
 z72:=Tryz.sizeOf248
 v72:=Tryz.zeroValue248
 t75:=Tryz.underlying250
 a75:=Tryz.isAgg250
 z75:=Tryz.sizeOf250
 v75:=Tryz.zeroValue250
 t164:=Tryz.underlying418
 a164:=Tryz.isAgg418
 z164:=Tryz.sizeOf418
 v164:=Tryz.zeroValue418
}
theorem lays169:Go.Proofs.Lays.n169 Tryz.prog ren:={
 mixed:=by kernel_rfl
 f169:=Tryz.func187.trans (congrArg some (by kernel_rfl))
 t0:=Tryz.underlying0
 a0:=Tryz.isAgg0
 z0:=Tryz.sizeOf0
 v0:=Tryz.zeroValue0
 t3:=Tryz.underlying3
 a3:=Tryz.isAgg3
 z3:=Tryz.sizeOf3
 v3:=Tryz.zeroValue3
 t9:=Tryz.underlying9
 a9:=Tryz.isAgg9
 z9:=Tryz.sizeOf9
 v9:=Tryz.zeroValue9
 t37:=Tryz.underlying246
 a37:=Tryz.isAgg246
 z37:=Tryz.sizeOf246
 v37:=Tryz.zeroValue246
 t70:=Tryz.underlying245
 a70:=Tryz.isAgg245
 z70:=Tryz.sizeOf245
 v70:=Tryz.zeroValue245
 t72:=Tryz.underlying248
 a72:=Tryz.isAgg248
 z72:=Tryz.sizeOf248
 v72:=Tryz.zeroValue248
 t127:=Tryz.underlying358
 a127:=Tryz.isAgg358
 z127:=Tryz.sizeOf358
 v127:=Tryz.zeroValue358
}
theorem extra:Builder.Extra Tryz.prog ren:={
 sizeBuilder:=by kernel_rfl
 liesBuilder:=by kernel_rfl
 t5:=Tryz.underlying5
 a5:=Tryz.isAgg5
 z5:=Tryz.sizeOf5
 v5:=Tryz.zeroValue5
 infoByte:=by kernel_rfl
 cellsByte:=by kernel_rfl
 sizeByte:=by kernel_rfl
 neB5:=by decide}
theorem write_any(B b:Nat)(bs:List Value)(s:ByteArray)(w:World)(h:Lib.IsBuilderF 248 5 B b bs w)(hlen:bs.length+s.size<=140737488355328)(hBw:B<=w.heap.size):
  Calls Tryz.prog 186 #[.pointer (some ⟨b,0,none⟩),.string s] w fun e w'=>e=.returned (.tuple #[.int .i64 s.size,.nilIface])/\(Lib.BuilderAtF 248 5 B b (.pointer (some ⟨b,0,none⟩)) (bs++Lib.strCells s) w'/\Below B w w'/\Lib.OthersKept 5 (some b) w w'):=
 Any.Builder_WriteString_k lays166 extra B b bs s w h hlen hBw
theorem yM(B b:Nat)(l:List UInt8)(w:World)(h:Lib.IsBuilderF 248 5 B b (Lib.byteCells l) w)(hBw:B<=w.heap.size):
  Calls Tryz.prog 187 #[.pointer (some ⟨b,0,none⟩)] w fun e w'=>e=.returned (.string ⟨l.toArray⟩)/\(Lib.IsBuilderF 248 5 B b (Lib.byteCells l) w'/\Below B w w'/\Lib.OthersKept 5 (some b) w w'):=
 Any.Builder_String_any_k lays169 extra B b l w h hBw
end Yv
end Go.Proofs.YtolkgbafebehfaaGreat

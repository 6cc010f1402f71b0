/- Part 18 of what the proof needs. -/
import Derived.Test.YtfjdpbbgfjhnlaaGreatMK01
import Derived.StillTailTactics
import Derived.Ground.Names2Prog
import Derived.Shelf.SlIterI.Nil
import Derived.Shelf.SortM.Plain
import Derived.Shelf.SortM.SortNone
set_option linter.unusedSimpArgs false
set_option linter.unusedVariables false
set_option maxHeartbeats 32000000
set_option maxRecDepth 100000
namespace Go.Proofs.YtfjdpbbgfjhnlaaGreat
open Go.RowKit Go.Maps
set_option maxRecDepth 100000
namespace aH
abbrev Safe:=Int->Option ByteArray
def dN(m:Safe)(k:Int):ByteArray:=(m k).getD ⟨#[]⟩
def nN(m:Safe)(k:Int)(s:ByteArray):Safe:=fun i=>if i=k then some s else m i
def I64(k:Int):Prop:=(Lit.int .i64 k).wf=true
theorem jL:Keyed Tryz.prog 3:=int_keyed Tryz.underlying3
theorem qB{k:Int}(h:I64 k):keyOf Tryz.prog 3 (.int .i64 k)=some (.int .i64 k):=keyOf_int_mk Tryz.underlying3 h
def iq(w:World)(b n:Nat)(m:Safe):Prop:=
 ∃D:DataW Unit,w.ownsMap Tryz.prog 3 (plainElem Tryz.prog 9) b n D/\∀k,I64 k->has D (.int .i64 k)=(m k).isSome/\D.atKey (.int .i64 k) (.lit (.string []))=.lit (.string (dN m k).data.toList)
theorem iq.lt{w:World}{b n:Nat}{m:Safe}(h:iq w b n m):b<w.heap.size:=by
 obtain⟨D,h,_⟩:=h
 exact h.lt
theorem iq.kept{F:Nat->Prop}{w w':World}{b n:Nat}{m:Safe}(h:iq w b n m)(hk:Kept F w w')(hf:¬F b):iq w' b n m:=by
 obtain⟨D,ho,hD⟩:=h
 have hlt:=ho.lt
 obtain⟨es,clock,hb,hF,hs,e⟩:=ho
 exact⟨D,⟨es,clock,(hk.block b hlt hf).trans hb,hF,hs,e⟩,hD⟩
theorem iq.made(w:World):iq (w.alloc (.map #[] 0)) w.heap.size 0 (fun _=>none):=
 ⟨_,World.ownsMap_made w _ _ _,fun k hk=>⟨rfl,rfl⟩⟩
theorem iq.look{w:World}{b n:Nat}{m:Safe}(h:iq w b n m){k:Int}(hk:I64 k):
  (Instr.lookup 69 (.map (some b)) (.int .i64 k) false).run Tryz.prog w=.ok (.string (dN m k)) w/\(dN m k).size<=maxLen:=by
 obtain⟨D,ho,hD⟩:=h
 obtain⟨v,ps,hrun,hv⟩:=ho.lookup jL Tryz.underlying69 (z:=.string ⟨#[]⟩) (by rfl) (zd:=.lit (.string [])) (zp:=[]) (plainElem_string Tryz.underlying9 (by decide)) (qB hk)
 rw[(hD k hk).2]at hv
 unfold plainElem at hv
 rw[Tryz.underlying9]at hv
 rw[hrun]
 cases v<;>simp at hv
 case string s=>
  obtain⟨h1,h2,_⟩:=hv
  have e:s=dN m k:=ByteArray.ext h2
  subst e
  exact⟨rfl,h1⟩
theorem iq.store{w:World}{b n:Nat}{m:Safe}(h:iq w b n m)(hn:n<maxLen){k:Int}(hk:I64 k)(s:ByteArray)(hs:s.size<=maxLen):
  ∃w',(Instr.mapUpdate 69 (.map (some b)) (.int .i64 k) (.string s)).run Tryz.prog w=.ok () w'/\iq w' b (n+1) (nN m k s)/\Kept (fun i=>i=b) w w':=by
 obtain⟨D,ho,hD⟩:=h
 obtain⟨w',hrun,ho',hg⟩:=ho.update jL Tryz.underlying69 hn (qB hk) (plainElem_string Tryz.underlying9 hs)
 refine⟨w',hrun,⟨_,ho',?_⟩,(Kept.refl _ _).grownBy hg fun i hi=>by injection hi with hi;exact .inl hi.symm⟩
 intro i hi
 have hm:IsMap D:=ho.isMap
 have hl:WideAt.IsKeyLit (.int .i64 k):=by trivial
 by_cases e:i=k
 ·subst e
  rw[has_put_same hm hl,atKey_put_same hm hl]
  simp[nN,dN]
 ·have hne:(Lit.int .i64 i)≠ .int .i64 k:=fun h=>e (by injection h)
  rw[has_put_other hne,atKey_put_other hne]
  have:=hD i hi
  simpa [nN,dN,e]using this
end aH
end Go.Proofs.YtfjdpbbgfjhnlaaGreat
namespace Go.Proofs.YtfjdpbbgfjhnlaaGreat
open Go.RowKit
set_option maxRecDepth 100000
namespace aH
abbrev Pc:=Int×ByteArray
def aS(ps:List Pc):List Value:=ps.flatMap fun p=>[.int .i64 p.1,.string p.2]
theorem sQ(a b:List Pc):aS (a++b)=aS a++aS b:=by simp[aS]
theorem XE(a:List Pc)(k:Nat)(p:Pc)(h:a[k]? =some p):(aS a)[k*2]? =some (.int .i64 p.1)/\(aS a)[k*2+1]? =some (.string p.2):=by
 have hk:∀j,j<2->(aS a)[k*2+j]? =([Value.int .i64 p.1,.string p.2])[j]? :=by
  intro j hj
  unfold aS
  rw[flat_get (fun p:Pc=>[Value.int .i64 p.1,.string p.2]) 2 (by decide) (fun _=>rfl),show(k*2+j)/2=k by omega,show(k*2+j)%2=j by omega,h]
  rfl
 exact⟨hk 0 (by decide),hk 1 (by decide)⟩
theorem aeD:Elem Tryz.prog 70 93 2 24:=by
 obtain⟨i0,hi,hz0,hz1,hz2⟩:=info_parts (show(Tryz.prog.info? 93).map (fun i=>(i.zero,i.size,i.bytes))=some (some (.agg #[.int .i64 0,.string ⟨#[]⟩]),2,24) by kernel_rfl)
 exact⟨Tryz.underlying70,⟨i0,_,hi,hz0,hz1,hz2,rfl⟩,by decide⟩
def aX(w:World)(g:Nat)(F:Nat->Prop)(n:Nat)(m:Safe)(ps:List Pc)(aU aK:Int):Prop:=
 ∃mb A c,(∀k,F k↔k=g\/k=mb\/(Value.slice A ps.length c).ownBlock=some k)/\Has w g 72 #[.map (some mb),.slice A ps.length c,.int .i64 aU,.int .i64 aK]/\iq w mb n m/\w.ownsRow 0 93 2 (.slice A ps.length c) ps.length (aS ps)
theorem iq.ne{w:World}{b n g:Nat}{m:Safe}{t:TypeId}{cs:Array Value}(h:iq w b n m)(hg:Has w g t cs):b≠g:=by
 rintro rfl
 obtain⟨D,⟨es,clock,hb,_⟩,_⟩:=h
 unfold Has at hg
 rw[hg]at hb
 cases hb
theorem iq.Bg{w:World}{b n base k s:Nat}{m:Safe}{e:TypeId}{v:Value}{xs:List Value}(h:iq w b n m)(hr:w.ownsRow base e s v k xs):v.ownBlock≠some b:=by
 obtain⟨D,⟨es,clock,hb,_⟩,_⟩:=h
 obtain⟨_,⟨rfl,_⟩|⟨g,cap,cur,rfl,_,hg,_⟩⟩:=hr
 ·simp[Value.ownBlock]
 ·intro e
  injection e with e
  simp at e
  subst e
  rw[hg]at hb
  cases hb
theorem aX.kept{F G:Nat->Prop}{w w':World}{g n:Nat}{m:Safe}{ps:List Pc}{aU aK:Int}(h:aX w g F n m ps aU aK)(hk:Kept G w w')(hs:Sep F G):aX w' g F n m ps aU aK:=by
 obtain⟨mb,A,c,hF,hg,hm,ho⟩:=h
 exact⟨mb,A,c,hF,hg.kept hk (hs _ ((hF _).2 (.inl rfl))),hm.kept hk (hs _ ((hF _).2 (.inr (.inl rfl)))),aC ho hk fun k hk'=>hs k ((hF k).2 (.inr (.inr hk')))⟩
theorem aX.lt{F:Nat->Prop}{w:World}{g n:Nat}{m:Safe}{ps:List Pc}{aU aK:Int}(h:aX w g F n m ps aU aK):∀k,F k->k<w.heap.size:=by
 obtain⟨mb,A,c,hF,hg,hm,ho⟩:=h
 intro k hk
 rcases(hF k).1 hk with rfl|rfl|h
 ·exact hg.lt
 ·exact hm.lt
 ·exact lH ho h
def aeE(w:World)(g:Nat)(F:Nat->Prop)(v:Value)(n:Nat)(m:Safe)(ps:List Pc)(aU aK:Int)(e:Ending)(w':World):Prop:=
 e=.returned v/\∃F',aX w' g F' n m ps aU aK/\ji w F F'/\Kept F w w'
section
variable{F:Nat->Prop}{w:World}{g n:Nat}{m:Safe}{ps:List Pc}{aU aK:Int}
theorem dR(h:aX w g F n m ps aU aK):
  Calls Tryz.prog 32 #[.pointer (some ⟨g,0,none⟩)] w fun e w'=>e=.returned (.bool false)/\w=w':=by
 obtain⟨mb,A,c,hF,hg,hm,ho⟩:=h
 have c0:w.cell? ⟨g,0,none⟩=some (.map (some mb)):=hg.cell 0
 clear hF hg hm ho
 have hnil:∀W:World,(binOp .eql 69 (.map (some mb)) (.map none)).run Tryz.prog W=.ok (.bool false) W:=fun W=>run_eql_map_nil W _ _ _ _ Tryz.underlying69
 go_enter Tryz.func32,Tryz.ntmps32
 go_wp2
 go_ret
 exact⟨rfl,rfl⟩
end
theorem new_any(w:World):Calls Tryz.prog 7 #[] w fun e w'=>∃g F,e=.returned (.pointer (some ⟨g,0,none⟩))/\aX w' g F 0 (fun _=>none) [] 1 1/\Kept aj w w'/\(∀k,F k->w.heap.size<=k):=by
 have hmk:= @run_makeMap Tryz.prog
 go_enter Tryz.func7,Tryz.ntmps7
 go_wp2
 go_ret
 refine⟨w.heap.size+1,fun k=>k=w.heap.size+1\/k=w.heap.size\/(Value.slice none 0 0).ownBlock=some k,?_,⟨w.heap.size,none,0,fun _=>Iff.rfl,?_,?_,?_⟩,?_,?_⟩
 ·rfl
 ·exact Has.bT _ _ _ (by rw[size_alloc])
 ·exact(iq.made w).kept (Kept.refl aj _|>.alloc _) (fun x=>x)
 ·exact⟨rfl,.inl ⟨rfl,rfl⟩⟩
 ·exact((Kept.refl _ _).alloc _).alloc _
 ·rintro k (rfl|rfl|h)
  ·omega
  ·omega
  ·cases h
end aH
namespace aH
variable{F:Nat->Prop}{w:World}{g n:Nat}{m:Safe}{ps:List Pc}{aU aK:Int}
theorem aaO(h:aX w g F n m ps aU aK)(f:Int)(s:ByteArray)(hf:1<=f)(hf2:f<=1073741824)(hlen:ps.length<=100000):
  Calls Tryz.prog 193 #[.pointer (some ⟨g,0,none⟩),.int .i64 f,.string s] w (aeE w g F (.int .i64 0) n m (ps++[(f,s)]) aU aK):=by
 have hn:=dR h
 have HN:=ah hn;clear hn
 obtain⟨mb,A,c,hF,hg,hm,ho⟩:=h
 have c1:w.cell? ⟨g,1,none⟩=some (.slice A ps.length c):=hg.cell 1
 have f1:=hg.frozen 1
 have hgl:=hg.lt
 have hne:=hm.ne hg
 have hnr:=own_ne ho hg (by decide)
 have HG:=ah hg;clear hg
 have HM:=ah hm;clear hm
 have HO:=ah ho;clear ho
 have HF:=ah hF;clear hF
 go_enter Tryz.func193,Tryz.ntmps193
 go_wp2_with fail
 refine HN.out.mono ?_
 rintro e w' ⟨rfl,rfl⟩
 have hone:∀u∈([.int .i64 f,.string s]:List Value),u.oneCell'=true:=by
  intro u hu
  simp at hu
  rcases hu with rfl|rfl<;>rfl
 have hM:ps.length+1<=maxLen:=by unfold maxLen;omega
 have hY:(ps.length+1)*24<=140737488355328:=by omega
 have vM:=ah hone;clear hone
 have Ou:=ah hM;clear hM
 have HY:=ah hY;clear hY
 go_wp2_with (at_builtin;refine aN aeD (.tmp 21) (.tmp 25) rfl rfl (Value.slice A ps.length c) rfl (aC HO.out (F:=aj) ((Kept.refl _ _).alloc _) (fun _ _ x=>x)) 1 rfl (Src.dn (m:=1) (Has.new w 93 #[.int .i64 f,.string s]) rfl) vM.out Ou.out HY.out ?_;intro A1 c1' w1 ho1 hg1 ha1;have hg1':=(HG.out.alloc (Obj.cells #[.int .i64 f,.string s] 93)).grown hg1 hnr;have d1:=hg1'.cell 1;have k1:=hg1'.frozen 1)
 go_ret
 have hk1:Kept F w w1:=((Kept.refl F w).alloc _).grown hg1 (fun k hk=> .inl ((HF.out k).2 (.inr (.inr hk))))
 have hkm:Kept (fun k=>(Value.slice A ps.length c).ownBlock=some k) w w1:=((Kept.refl _ w).alloc _).grown hg1 (fun k hk=> .inl hk)
 have hne1:∀k,(Value.slice A1 (ps.length+1) c1').ownBlock=some k->k≠g:=fun k hk e=>by
  subst e
  exact own_ne ho1 hg1' (by decide) hk
 refine⟨rfl,fun k=>k=g\/k=mb\/(Value.slice A1 (ps.length+1) c1').ownBlock=some k,⟨mb,A1,c1',fun _=>by simp,?_,?_,?_⟩,?_,?_⟩
 ·have:=hg1'.put 1 (.slice A1 (ps.length+1) c1')
  simpa using this
 ·exact(HM.out.kept hkm (HM.out.Bg HO.out)).kept (F:=fun k=>k=g) ((Kept.refl _ _).put (.inl rfl)) hne
 ·have:=aC ho1 (F:=fun k=>k=g) ((Kept.refl _ _).put (i:=1) (u:=.slice A1 (ps.length+1) c1') (.inl rfl)) hne1
  rw[sQ]
  simpa [aS]using this
 ·rintro k (rfl|rfl|hk)
  ·exact .inl ((HF.out _).2 (.inl rfl))
  ·exact .inl ((HF.out _).2 (.inr (.inl rfl)))
  ·rcases ha1 with e|e
   ·exact .inl ((HF.out _).2 (.inr (.inr (e▸hk))))
   ·rw[hk]at e
    injection e with e
    exact .inr (by rw[e];simp)
 ·exact hk1.put (.inl ((HF.out _).2 (.inl rfl)))
end aH
namespace aH
variable{F:Nat->Prop}{w:World}{g n:Nat}{m:Safe}{ps:List Pc}{aU aK:Int}
def total(ps:List Pc):Nat:=(ps.map fun p=>p.2.size).sum
theorem rM(ps:List Pc)(p:Pc):total (ps++[p])=total ps+p.2.size:=by simp[total]
theorem Ce(ps:List Pc)(i:Nat):total (ps.take i)<=total ps:=by
 have:ps=ps.take i++ps.drop i:=(List.take_append_drop i ps).symm
 conv=>rhs;rw[this]
 simp only[total,List.map_append,List.sum_append]
 omega
theorem take_snoc{α:Type}{l:List α}{i:Nat}{p:α}(h:l[i]? =some p):l.take (i+1)=l.take i++[p]:=by
 rw[List.take_add_one,h];rfl
theorem Cf{w:World}{A:Option Addr}{k:Nat}{ps:List Pc}(h:Src w 2 A k (aS ps))(hm:0<k)(i:Nat)(p:Pc)(hp:ps[i]? =some p):
  ∃ad,A=some ad/\ad.block<w.heap.size/\w.cell? (ad.add (i*2))=some (.int .i64 p.1)/\w.cell? ⟨(ad.add (i*2)).block,(ad.add (i*2)).off+1,none⟩=some (.string p.2):=by
 obtain⟨ad,rfl,had,hcell⟩:=h.2 hm
 obtain⟨k0,k1⟩:=XE ps i p hp
 refine⟨ad,rfl,had,hcell _ _ k0,?_⟩
 rw[<-add_lit _ (by omega),add_add];exact hcell _ _ k1
theorem F7(h:aX w g F n m ps aU aK)(hlen:ps.length<=100000)(hsz:total ps<=4611686018427387904):
  Calls Tryz.prog 65 #[.pointer (some ⟨g,0,none⟩)] w fun e w'=>e=.returned (.int .i64 (total ps))/\Kept aj w w':=by
 have hn:=dR h
 have HN:=ah hn;clear hn
 obtain⟨mb,A,c,hF,hg,hm,ho⟩:=h
 have c1:w.cell? ⟨g,1,none⟩=some (.slice A ps.length c):=hg.cell 1
 have HS:=ah (Src.bC ho)
 clear hF hg hm ho
 go_enter Tryz.func65,Tryz.ntmps65
 go_wp2_with fail
 refine HN.out.mono ?_
 rintro e w' ⟨rfl,rfl⟩
 go_wp2_with fail
 go_loopw [3,5,13] (fun v3 v5 v13 wr=>∃i:Nat,i<=ps.length/\v13=.int .i64 i/\v3=.int .i64 (total (ps.take i))/\Kept aj w wr) (fun _ _ v13 _=>ps.length-(intOf v13).toNat)
 case atStart=>exact⟨0,Nat.zero_le _,rfl,by simp[total],Kept.refl _ _⟩
 case round=>
  obtain⟨i,hi,rfl,rfl,hk⟩:=hrel
  by_cases hil:i<ps.length
  ·obtain⟨q,hq⟩:∃q,ps[i]? =some q:=⟨_,List.getElem?_eq_getElem hil⟩
   have uI:=HS.out.kept hk (fun _ _ x=>x)
   obtain⟨ad,rfl,hl1,d0,d1⟩:=Cf uI (by omega) i q hq
   have ht:=Ce ps (i+1)
   rw[take_snoc hq,rM]at ht
   have HT:=ah (take_snoc hq)
   obtain⟨q1,q2⟩:=q
   dsimp only at d0 d1 ht
   clear hq uI
   go_wp2
   go_roundw
   case rel=>exact⟨i+1,by omega,by go_num,by rw[HT.out,rM];go_num,hk.alloc _⟩
   case measure=>simp[intOf];omega
  ·obtain rfl:i=ps.length:=by omega
   go_wp2
   go_ret
   exact⟨by rw[List.take_length];rfl,hk⟩
end aH
namespace aH
variable{F:Nat->Prop}{w:World}{g n:Nat}{m:Safe}{ps:List Pc}{aU aK:Int}
theorem Has.setCells{b:Nat}{t:TypeId}:∀(vs:List Value) (o:Nat) (w:World) (cs:Array Value),Has w b t cs->∃cs',Has (w.setCells b o vs) b t cs'/\cs'.size=cs.size
 |[],_,_,cs,h=>⟨cs,h,rfl⟩
 |v::r,o,w,cs,h=>by
  obtain⟨cs',h',e⟩:=Has.setCells r (o+1) _ _ (h.put o v)
  exact⟨cs',h',by rw[e];simp⟩
theorem Kept.setCells{b:Nat}:∀(vs:List Value) (o:Nat) (w:World),Kept (fun k=>some b=some k) w (w.setCells b o vs)
 |[],_,w=>Kept.refl _ _
 |v::r,o,w=>Kept.then (F:=fun k=>some b=some k) ((Kept.refl _ w).put (g:=b) (i:=o) (u:=v) (.inl rfl)) (Kept.setCells r (o+1) _)
theorem XF{P:Program}{size:Nat}{v:Value}{n:Nat}{xs:List Value}{t e:TypeId}{z:Value}(h:w.ownsRow 0 e size v n xs)(ht:P.underlying t=some (.slice e))
  (hv:∀w,(zeroValue e).run P w=.ok z w) (hz:z.cells.size=size) (h0:0<size) (h1:∀u∈z.cells,u.oneCell'=true):
  ∃w',(∀ty,(Builtin.clear_ #[t] ty #[v]).run P w=.ok (.tuple #[]) w')/\Kept (fun k=>v.ownBlock=some k) w w'/\∀A c,v=.slice A n c->w'.ownsRow 0 e size (.slice A 0 c) 0 []:=by
 rcases h.2 with⟨rfl,rfl⟩|⟨g,cap,cur,rfl,hb,hg,hn,hm,hs,htk⟩
 ·refine⟨w,fun ty=>by simp[Builtin.clear_,run_underlying ht],Kept.refl _ _,?_⟩
  intro A c e
  injection e with e1 e2 e3
  subst e1
  subst e3
  exact⟨by simp,.inl ⟨rfl,rfl⟩⟩
 ·rcases Nat.eq_zero_or_pos n with rfl|hp
  ·refine⟨w,fun ty=>by simp[Builtin.clear_,run_underlying ht],Kept.refl _ _,?_⟩
   intro A c e
   injection e with e1 e2 e3
   subst e1
   subst e3
   exact⟨by simp,.inr ⟨g,cap,cur,rfl,hb,hg,hn,hm,hs,by simp⟩⟩
  ·have hlen:(Builtin.zeroCells z.cells n).toList.length=n*size:=by simp[Builtin.zeroCells,hz]
   have hle:n*size<=cap*size:=Nat.mul_le_mul_right _ hn
   have hH:Has w g e cur:=hg
   have hone:∀u∈(Builtin.zeroCells z.cells n).toList,u.oneCell'=true:=by
    intro u hu
    simp only[Builtin.zeroCells,Array.toList_map,List.mem_map]at hu
    obtain⟨i,_,rfl⟩:=hu
    have hlt:i%z.cells.size<z.cells.size:=Nat.mod_lt _ (by omega)
    rw[getElem!_pos z.cells _ hlt]
    exact h1 _ (Array.getElem_mem hlt)
   have hst:=run_storeCells_cells (P:=P) g 0 (Builtin.zeroCells z.cells n).toList 0 w
    (by intro j hj;rw[hlen]at hj;rw[show 0+0+j=j by omega,hH.cell,Array.getElem?_eq_getElem (by omega)];rfl)
    (by intro j hj;exact hH.frozen _) hone
   obtain⟨cs',hcs,hsz⟩:=Has.setCells (Builtin.zeroCells z.cells n).toList 0 w cur hH
   refine⟨_,fun ty=> ?_,Kept.setCells (Builtin.zeroCells z.cells n).toList 0 w,?_⟩
   ·obtain⟨m,rfl⟩:∃m,n=m+1:=⟨n-1,by omega⟩
    simp only[Nat.add_zero]at hst
    simp[Builtin.clear_,run_underlying ht,hv,hst]
   ·intro A c e
    injection e with e1 e2 e3
    subst e1
    subst e3
    exact⟨by simp,.inr ⟨g,cap,cs',rfl,hb,hcs,Nat.zero_le _,hm,by omega,by simp⟩⟩
theorem IC(h:aX w g F n m ps aU aK):
  Calls Tryz.prog 33 #[.pointer (some ⟨g,0,none⟩)] w fun e w'=>e=.returned (.tuple #[])/\aX w' g F n m [] aU aK/\Kept F w w':=by
 obtain⟨mb,A,c,hF,hg,hm,ho⟩:=h
 obtain⟨w1,hcl,hk,hrow⟩:=XF ho Tryz.underlying70 (z:=.agg #[.int .i64 0,.string ⟨#[]⟩]) (by intro w;kernel_rfl) rfl (by decide) (by intro u hu;simp[Value.cells]at hu;rcases hu with rfl|rfl<;>rfl)
 have ho1:=hrow A c rfl
 have hnr:=own_ne ho hg (by decide)
 have hg1:Has w1 g 72 #[.map (some mb),.slice A ps.length c,.int .i64 aU,.int .i64 aK]:=hg.kept hk hnr
 have hm1:iq w1 mb n m:=hm.kept hk (hm.Bg ho)
 have hne:=hm.ne hg
 have c0:w.cell? ⟨g,1,none⟩=some (.slice A ps.length c):=hg.cell 1
 have c1:w1.cell? ⟨g,1,none⟩=some (.slice A ps.length c):=hg1.cell 1
 have f1:=hg1.frozen 1
 have hsl:∀W:World,(Instr.slice 70 (.slice A ps.length c) none (some (.int .i64 0)) none).run Tryz.prog W=.ok (.slice A 0 c) W:=by
  intro W
  cases A<;>simp[go_sem,Tryz.underlying70]
 have hnn:(Value.slice A 0 c).ownBlock=(Value.slice A ps.length c).ownBlock:=by cases A<;>rfl
 have HK:=ah hk;clear hk
 have HG:=ah hg1;clear hg1 hg
 have HM:=ah hm1;clear hm1 hm
 have HO:=ah ho1;clear ho1 ho hrow
 have HF:=ah hF;clear hF
 have HNN:=ah hnn;clear hnn
 go_enter Tryz.func33,Tryz.ntmps33
 go_wp2
 go_end0
 refine⟨rfl,⟨mb,A,c,?_,?_,?_,?_⟩,?_⟩
 ·intro k
  rw[HF.out k,<-HNN.out]
  exact Iff.rfl
 ·((repeat (first|with_reducible exact HG.out|with_reducible apply Has.dB|with_reducible apply Has.past|with_reducible apply Has.drewN|with_reducible apply Has.drew|with_reducible apply Has.alloc))<;>first|omega|rfl)
 ·exact HM.out.kept (F:=fun k=>k=g) (by(repeat'(first|(with_reducible first|exact ak|apply au|apply ay|apply aA|apply aB)|(exact .inl rfl)|(right;simp;done)))) hne
 ·exact aC HO.out (F:=fun k=>k=g) (by(repeat'(first|(with_reducible first|exact ak|apply au|apply ay|apply aA|apply aB)|(exact .inl rfl)|(right;simp;done)))) fun k hk e=>hnr (HNN.out.symm.trans (hk.trans (by rw[e])))
 ·exact(HK.out.mono fun k hk=>(HF.out k).2 (.inr (.inr hk))).put (.inl ((HF.out _).2 (.inl rfl)))
def qE(m:Safe)(left:Nat):List Pc->Safe
 |[]=>m
 |p::ps=>if left<p.2.size then (if left=0 then m else nN m p.1 (dN m p.1++p.2.extract 0 left))else qE (nN m p.1 (dN m p.1++p.2)) (left-p.2.size) ps
theorem KO(m:Safe)(k i:Int)(s:ByteArray):dN (nN m k s) i=if i=k then s else dN m i:=by
 unfold dN nN
 split<;>simp_all
theorem adu{m:Safe}{Z:Nat}(h:∀k,(dN m k).size<=Z)(k:Int)(s:ByteArray)(i:Int):(dN (nN m k (dN m k++s)) i).size<=Z+s.size:=by
 rw[KO]
 split
 ·have:=h k
  simp
  omega
 ·have:=h i
  omega
theorem drop_cons{α:Type}{l:List α}{i:Nat}{p:α}(h:l[i]? =some p):l.drop i=p::l.drop (i+1):=by
 obtain⟨hi,e⟩:=List.getElem?_eq_some_iff.1 h
 rw[<-e]
 exact List.drop_eq_getElem_cons hi
theorem iq.mono{b n':Nat}(h:iq w b n m)(hn:n<=n'):iq w b n' m:=by
 obtain⟨D,ho,hD⟩:=h
 exact⟨D,ho.mono hn,hD⟩
def lG(m:Safe):List Pc->Safe
 |[]=>m
 |p::ps=>lG (nN m p.1 (dN m p.1++p.2)) ps
theorem Ov(h:aX w g F n m ps aU aK)(hpi:∀p∈ps,I64 p.1)(hlen:ps.length<=100000)(hn:n<=1000000)
  (Z:Nat) (hZ:∀k,(dN m k).size<=Z) (hsz:Z+total ps<=4611686018427387904):
  Calls Tryz.prog 66 #[.pointer (some ⟨g,0,none⟩)] w fun e w'=>e=.returned (.int .i64 (total ps))/\aX w' g F (n+ps.length) (lG m ps) [] aU aK/\Kept F w w':=by
 have hn:=dR h
 have HN:=ah hn;clear hn
 have hpe:∀W,Kept aj w W->_:=fun W hW=>F7 (h.kept hW (fun _ _ x=>x)) hlen (by omega)
 have Dt:=ah hpe;clear hpe
 obtain⟨mb,A,c,hF,hg,hm,ho⟩:=h
 have c0:w.cell? ⟨g,0,none⟩=some (.map (some mb)):=hg.cell 0
 have c1:w.cell? ⟨g,1,none⟩=some (.slice A ps.length c):=hg.cell 1
 have HG:=ah hg;clear hg
 have HM:=ah hm;clear hm
 have HO:=ah ho;clear ho
 have HF:=ah hF;clear hF
 have uJ:=ah hpi;clear hpi
 have HZ:=ah hZ;clear hZ
 go_enter Tryz.func66,Tryz.ntmps66
 go_wp2_with fail
 refine HN.out.mono ?_
 rintro e w' ⟨rfl,rfl⟩
 go_wp2_with fail
 refine(Dt.out _ (Kept.refl _ _)).mono ?_
 rintro e w0 ⟨rfl,hk0⟩
 have c1:w0.cell? ⟨g,1,none⟩=some (.slice A ps.length c):=(HG.out.kept hk0 (fun x=>x)).cell 1
 go_wp2_with fail
 go_loopw [5,15] (fun v5 v15 wr=>∃(i:Nat) (mi:Safe),i<=ps.length/\v15=.int .i64 i/\iq wr mb (n+i) mi/\lG m ps=lG mi (ps.drop i)/\(∀k,(dN mi k).size<=Z+total (ps.take i))/\Kept (fun k=>k=mb) w wr) (fun _ v15 _=>ps.length-(intOf v15).toNat)
 case atStart=>exact⟨0,m,Nat.zero_le _,rfl,HM.out.kept hk0 (fun x=>x),rfl,by simpa [total]using HZ.out,hk0.mono fun _ x=>x.elim⟩
 case round=>
  obtain⟨i,mi,hi,rfl,uD,hcr,hzi,hk⟩:=hrel
  have hend:∀(W:World) (j:Nat) (mj:Safe),j<=ps.length->iq W mb (n+j) mj->Kept (fun k=>k=mb) wr W->aX W g F (n+ps.length) mj ps aU aK/\Kept F w W:=by
   intro W j mj hj hmj hkW
   have hkk:=hk.then hkW
   refine⟨⟨mb,A,c,HF.out,HG.out.kept hkk (fun e=>HM.out.ne HG.out e.symm),hmj.mono (by omega),aC HO.out hkk ?_⟩,hkk.mono fun k e=>(HF.out k).2 (.inr (.inl e))⟩
   rintro k hkb rfl
   exact HM.out.Bg HO.out hkb
  have jv:=ah hend;clear hend
  have hkg:=HG.out.kept hk (fun e=>HM.out.ne HG.out e.symm)
  have d0:wr.cell? ⟨g,0,none⟩=some (.map (some mb)):=hkg.cell 0
  have hgl:=hkg.lt
  clear hkg
  by_cases hil:i<ps.length
  ·obtain⟨q,hq⟩:∃q,ps[i]? =some q:=⟨_,List.getElem?_eq_getElem hil⟩
   have uI:=(Src.bC HO.out).kept hk (by rintro ad rfl e;exact HM.out.Bg HO.out (by rw[Value.ownBlock,e]))
   obtain⟨ad,rfl,hl1,e0,e1⟩:=Cf uI (by omega) i q hq
   clear uI
   have ht:=Ce ps (i+1)
   rw[take_snoc hq,rM]at ht
   have HT:=ah (take_snoc hq)
   rw[drop_cons hq]at hcr
   have hq1:I64 q.1:=uJ.out q (List.mem_of_getElem? hq)
   have hmw:iq (World.drew (wr.alloc (.cells #[.int .i64 q.1,.string q.2] 93))) mb (n+i) mi:=uD.kept ((Kept.refl aj _).alloc _).drew (fun x=>x)
   have hlk:=(hmw.look hq1).1
   have hsq:=hzi q.1
   obtain⟨q1,q2⟩:=q
   rw[lG]at hcr
   dsimp only at e0 e1 hq1 hmw hlk hsq ht hcr
   clear hq
   have HCR:=ah hcr;clear hcr
   have HZI:=ah hzi;clear hzi
   have HK:=ah hk;clear hk
   obtain⟨w2,hst,hm2,hk2⟩:=hmw.store (by unfold maxLen;omega) hq1 (dN mi q1++q2) (by unfold maxLen;simp;omega)
   have b1:w2.cell? ⟨wr.heap.size,1,none⟩=some (.string q2):=(((Has.new wr 93 #[.int .i64 q1,.string q2]).drew).kept hk2 (fun e=>by have:=uD.lt;omega)).cell 1
   clear hmw
   have hnl:¬9223372036854775807<(dN mi q1).size+q2.size:=by omega
   go_wp2_with fail
   refine wp_region_still_tail 10 (by kernel_rfl) (by kernel_rfl) ?_
   simp only[List.take_succ_cons,List.take_zero,List.drop_succ_cons,List.drop_zero]
   change wpStill _ _ (World.drew (wr.alloc _)) _ _ _
   repeat still_step
   refine wpStill_nil ?_
   change wpList _ _ _ _ _ (World.drew (wr.alloc _))
   go_wp2_with fail
   have agR:Kept (fun k=>k=mb) wr w2:=((Kept.refl _ _).alloc _).drew.then hk2
   have agS:∀k,(dN (nN mi q1 (dN mi q1++q2)) k).size<=Z+total (ps.take (i+1)):=by
    intro k
    rw[HT.out,rM,<-Nat.add_assoc]
    exact adu HZI.out q1 q2 k
   go_roundw
   case rel=>exact⟨i+1,_,by omega,by go_num,hm2,HCR.out,agS,HK.out.then agR⟩
   case measure=>simp[intOf];omega
  ·obtain rfl:i=ps.length:=by omega
   go_wp2_with fail
   obtain⟨hd1,hk1⟩:=jv.out wr ps.length _ (Nat.le_refl _) uD (Kept.refl _ _)
   refine(IC hd1).mono ?_
   rintro e w4 ⟨rfl,hd2,hk3⟩
   go_wp2_with fail
   go_ret
   refine⟨rfl,?_,hk1.then hk3⟩
   have hz:=hcr
   rw[List.drop_length,lG]at hz
   rw[hz]
   exact hd2
end aH
end Go.Proofs.YtfjdpbbgfjhnlaaGreat
namespace Go.Proofs.YtfjdpbbgfjhnlaaGreat
open Go.Shelf Go.RowKit
set_option maxRecDepth 100000
namespace Bld
def ren:Go.Shelf.Ren:=⟨fun|166=>210|169=>198|240=>248|276=>258|n=>n,fun|0=>0|3=>3|4=>4|5=>5|9=>9|20=>20|37=>256|70=>258|72=>260|75=>276|80=>264|127=>315|164=>329|n=>n,fun|n=>n⟩
theorem lays166:Go.Proofs.Lays.n166 Tryz.prog ren:={
 mixed:=by kernel_rfl
 f166:=Tryz.func210.trans (congrArg some (by kernel_rfl))
 f240:=Tryz.func248.trans (congrArg some (by kernel_rfl))
 f276:=Tryz.func258.trans (congrArg some (by kernel_rfl))
 t0:=Tryz.underlying0
 a0:=Tryz.isAgg0
 z0:=Tryz.sizeOf0
 v0:=Tryz.zeroValue0
 t3:=Tryz.underlying3
 a3:=Tryz.isAgg3
 z3:=Tryz.sizeOf3
 v3:=Tryz.zeroValue3
 t4:=Tryz.underlying4
 a4:=Tryz.isAgg4
 z4:=Tryz.sizeOf4
 v4:=Tryz.zeroValue4
 t9:=Tryz.underlying9
 a9:=Tryz.isAgg9
 z9:=Tryz.sizeOf9
 v9:=Tryz.zeroValue9
 t20:=Tryz.underlying20
 a20:=Tryz.isAgg20
 z20:=Tryz.sizeOf20
 v20:=Tryz.zeroValue20
 t37:=Tryz.underlying256
 a37:=Tryz.isAgg256
 z37:=Tryz.sizeOf256
 v37:=Tryz.zeroValue256
 t70:=Tryz.underlying258
 a70:=Tryz.isAgg258
 z70:=Tryz.sizeOf258
 v70:=Tryz.zeroValue258
 t72:=Tryz.underlying260
 a72:=Tryz.isAgg260
 z72:=Tryz.sizeOf260
 v72:=Tryz.zeroValue260
 t75:=Tryz.underlying276
 a75:=Tryz.isAgg276
 z75:=Tryz.sizeOf276
 v75:=Tryz.zeroValue276
 t164:=Tryz.underlying329
 a164:=Tryz.isAgg329
 z164:=Tryz.sizeOf329
 v164:=Tryz.zeroValue329
}
theorem lays169:Go.Proofs.Lays.n169 Tryz.prog ren:={
 mixed:=by kernel_rfl
 f169:=Tryz.func198.trans (congrArg some (by kernel_rfl))
 t0:=Tryz.underlying0
 a0:=Tryz.isAgg0
 z0:=Tryz.sizeOf0
 v0:=Tryz.zeroValue0
 t3:=Tryz.underlying3
 a3:=Tryz.isAgg3
 z3:=Tryz.sizeOf3
 v3:=Tryz.zeroValue3
 t9:=Tryz.underlying9
 a9:=Tryz.isAgg9
 z9:=Tryz.sizeOf9
 v9:=Tryz.zeroValue9
 t37:=Tryz.underlying256
 a37:=Tryz.isAgg256
 z37:=Tryz.sizeOf256
 v37:=Tryz.zeroValue256
 t70:=Tryz.underlying258
 a70:=Tryz.isAgg258
 z70:=Tryz.sizeOf258
 v70:=Tryz.zeroValue258
 t72:=Tryz.underlying260
 a72:=Tryz.isAgg260
 z72:=Tryz.sizeOf260
 v72:=Tryz.zeroValue260
 t127:=Tryz.underlying315
 a127:=Tryz.isAgg315
 z127:=Tryz.sizeOf315
 v127:=Tryz.zeroValue315
}
theorem extra:Builder.Extra Tryz.prog ren:={
 sizeBuilder:=by kernel_rfl
 liesBuilder:=by kernel_rfl
 t5:=Tryz.underlying5
 a5:=Tryz.isAgg5
 z5:=Tryz.sizeOf5
 v5:=Tryz.zeroValue5
 infoByte:=by kernel_rfl
 cellsByte:=by kernel_rfl
 sizeByte:=by kernel_rfl
 neB5:=by decide}
theorem write_any(B b:Nat)(bs:List Value)(s:ByteArray)(w:World)(h:Lib.IsBuilderF 260 5 B b bs w)(hlen:bs.length+s.size<=140737488355328)(hBw:B<=w.heap.size):
  Calls Tryz.prog 210 #[.pointer (some ⟨b,0,none⟩),.string s] w fun e w'=>e=.returned (.tuple #[.int .i64 s.size,.nilIface])/\(Lib.BuilderAtF 260 5 B b (.pointer (some ⟨b,0,none⟩)) (bs++Lib.strCells s) w'/\Below B w w'/\Lib.OthersKept 5 (some b) w w'):=
 Any.Builder_WriteString_k lays166 extra B b bs s w h hlen hBw
theorem BH(B b:Nat)(l:List UInt8)(w:World)(h:Lib.IsBuilderF 260 5 B b (Lib.byteCells l) w)(hBw:B<=w.heap.size):
  Calls Tryz.prog 198 #[.pointer (some ⟨b,0,none⟩)] w fun e w'=>e=.returned (.string ⟨l.toArray⟩)/\(Lib.IsBuilderF 260 5 B b (Lib.byteCells l) w'/\Below B w w'/\Lib.OthersKept 5 (some b) w w'):=
 Any.Builder_String_any_k lays169 extra B b l w h hBw
end Bld
end Go.Proofs.YtfjdpbbgfjhnlaaGreat
namespace Go.Proofs.YtfjdpbbgfjhnlaaGreat
open Go.RowKit
set_option maxRecDepth 100000
namespace aH
variable{F:Nat->Prop}{w:World}{g n:Nat}{m:Safe}{ps:List Pc}{aU aK:Int}
def ofFile(f:Int)(ps:List Pc):List UInt8:=ps.flatMap fun p=>if p.1=f then p.2.data.toList else []
theorem F8(f:Int)(ps:List Pc)(p:Pc):ofFile f (ps++[p])=ofFile f ps++if p.1=f then p.2.data.toList else []:=by simp[ofFile]
theorem F9(f:Int)(p:Pc)(ps:List Pc):ofFile f (p::ps)=(if p.1=f then p.2.data.toList else [])++ofFile f ps:=by simp[ofFile]
theorem total_cons(p:Pc)(ps:List Pc):total (p::ps)=p.2.size+total ps:=by simp[total]
theorem IE(f:Int)(ps:List Pc):(ofFile f ps).length<=total ps:=by
 induction ps with
 |nil=>simp[ofFile]
 |cons p ps ih=>
  rw[F9,total_cons,List.length_append]
  split
  ·simp;omega
  ·simp;omega
def dataOf(m:Safe)(ps:List Pc)(f:Int):ByteArray:=⟨((dN m f).data.toList++ofFile f ps).toArray⟩
theorem yO(h:aX w g F n m ps aU aK)(f:Int)(hf:I64 f)(hlen:ps.length<=100000)(hsz:(dN m f).size+total ps<=140737488355328):
  Calls Tryz.prog 127 #[.pointer (some ⟨g,0,none⟩),.int .i64 f] w fun e w'=>e=.returned (.string (dataOf m ps f))/\Kept aj w w':=by
 have hn:=dR h
 have HN:=ah hn;clear hn
 obtain⟨mb,A,c,hF,hg,hm,ho⟩:=h
 have c0:w.cell? ⟨g,0,none⟩=some (.map (some mb)):=hg.cell 0
 have c1:w.cell? ⟨g,1,none⟩=some (.slice A ps.length c):=hg.cell 1
 have hgl:=hg.lt
 have hlk:=((hm.kept ((Kept.refl aj w).alloc (.cells #[.pointer none,.slice none 0 0] 260)) (fun x=>x)).look hf).1
 have HG:=ah hg;clear hg
 have HM:=ah hm;clear hm
 have HS:=ah (Src.bC ho);clear ho
 have XG:=ah (Lib.IsBuilderF.of (Lib.fresh_isBuilder 260 5 w))
 clear hF
 go_enter Tryz.func127,Tryz.ntmps127
 go_wp2_with fail
 refine HN.out.mono ?_
 rintro e w' ⟨rfl,rfl⟩
 go_wp2_with fail
 refine(Bld.write_any w.heap.size w.heap.size [] (dN m f) _ XG.out (by simp;omega) (by simp)).mono ?_
 rintro e w1 ⟨rfl,hb1,hk1,-⟩
 have hbl:Below w.heap.size w w1:=((Below.refl _ _).alloc (Nat.le_refl _) _).trans hk1
 have hkb:Kept aj w w1:=Kept.of_below hbl (fun k h _=>h)
 have c1':w1.cell? ⟨g,1,none⟩=some (.slice A ps.length c):=(HG.out.kept hkb (fun x=>x)).cell 1
 have aeF:Lib.IsBuilderF 260 5 w.heap.size w.heap.size (Lib.byteCells ((dN m f).data.toList++ofFile f (ps.take 0))) w1:=by
  refine .inr ?_
  simpa [ofFile,show Lib.strCells (dN m f)=Lib.byteCells (dN m f).data.toList from rfl]using hb1
 have agT:=ah aeF;clear aeF hb1
 go_wp2_with fail
 go_loopw [7,22] (fun v7 v22 wr=>∃i:Nat,i<=ps.length/\v22=.int .i64 i/\Lib.IsBuilderF 260 5 w.heap.size w.heap.size (Lib.byteCells ((dN m f).data.toList++ofFile f (ps.take i))) wr/\Below w.heap.size w wr) (fun _ v22 _=>ps.length-(intOf v22).toNat)
 case atStart=>exact⟨0,Nat.zero_le _,rfl,agT.out,hbl⟩
 case round=>
  obtain⟨i,hi,rfl,hib,hbw⟩:=hrel
  have HK:=ah (Kept.of_below (F:=aj) hbw (fun k h _=>h))
  have xK:=ah hbw;clear hbw
  have hsl:=xK.out.size
  have XG:=ah hib;clear hib
  by_cases hil:i<ps.length
  ·obtain⟨q,hq⟩:∃q,ps[i]? =some q:=⟨_,List.getElem?_eq_getElem hil⟩
   have uI:=HS.out.kept HK.out (fun _ _ x=>x)
   obtain⟨ad,rfl,hl1,e0,e1⟩:=Cf uI (by omega) i q hq
   clear uI
   have ht:=Ce ps (i+1)
   rw[take_snoc hq,rM]at ht
   have hol:=IE f (ps.take i)
   have HT:=ah (take_snoc hq)
   obtain⟨q1,q2⟩:=q
   dsimp only at e0 e1 ht
   clear hq
   by_cases hqf:q1=f
   ·subst hqf
    go_wp2_with fail
    refine(Bld.write_any w.heap.size w.heap.size _ q2 _ (XG.out.alloc _) (by simp[Lib.byteCells_length];omega) (by simp;omega)).mono ?_
    rintro e w2 ⟨rfl,hb2,hk2,-⟩
    have hb3:Below w.heap.size w w2:=(xK.out.alloc hsl _).trans hk2
    have hb4:Lib.IsBuilderF 260 5 w.heap.size w.heap.size (Lib.byteCells ((dN m q1).data.toList++ofFile q1 (ps.take (i+1)))) w2:=by
     refine .inr ?_
     rw[HT.out,F8]
     simpa [Lib.byteCells,Lib.strCells]using hb2
    go_wp2_with fail
    go_roundw
    case rel=>exact⟨i+1,by omega,by go_num,hb4,hb3⟩
    case measure=>simp[intOf];omega
   ·have hne:(q1==f)=false:=by simpa using hqf
    have hb4:Lib.byteCells ((dN m f).data.toList++ofFile f (ps.take (i+1)))=Lib.byteCells ((dN m f).data.toList++ofFile f (ps.take i)):=by
     rw[HT.out,F8]
     simp[hqf]
    have HB4:=ah hb4;clear hb4
    go_wp2_with fail
    go_roundw
    case rel=>exact⟨i+1,by omega,by go_num,by rw[HB4.out];exact XG.out.alloc _,xK.out.alloc hsl _⟩
    case measure=>simp[intOf];omega
  ·obtain rfl:i=ps.length:=by omega
   go_wp2_with fail
   refine(Bld.BH w.heap.size w.heap.size _ _ XG.out (by omega)).mono ?_
   rintro e w2 ⟨rfl,hb2,hk2,-⟩
   have hb3:=xK.out.trans hk2
   go_wp2_with fail
   go_ret
   exact⟨rfl,Kept.of_below hb3 (fun k h _=>h)⟩
end aH
end Go.Proofs.YtfjdpbbgfjhnlaaGreat
namespace Go.Proofs.YtfjdpbbgfjhnlaaGreat
open Go.Shelf Go.Sort Go.RowKit Go.Maps Go.Proofs
set_option maxRecDepth 100000
namespace It
def keysA_ren:Go.Shelf.Ren:=⟨fun|7=>111|10=>190|n=>n,fun|23=>88|26=>3|3=>4|28=>176|0=>0|27=>175|33=>91|4=>4|n=>n,fun|n=>n⟩
theorem keysA:Go.Proofs.SlLaysZI.n7 Tryz.prog keysA_ren:={
 mixed:=by kernel_rfl
 f7:=⟨Tryz.f111.name,by decide,Tryz.func111.trans (congrArg some (by kernel_rfl))⟩
 f10:=⟨Tryz.f190.name,by decide,Tryz.func190.trans (congrArg some (by kernel_rfl))⟩
 t0:=Tryz.underlying0
 a0:=Tryz.isAgg0
 z0:=Tryz.sizeOf0
 v0:=Tryz.zeroValue0
 t4:=Tryz.underlying4
 a4:=Tryz.isAgg4
 z4:=Tryz.sizeOf4
 v4:=Tryz.zeroValue4
 t23:=Tryz.underlying88
 a23:=Tryz.isAgg88
 z23:=Tryz.sizeOf88
 v23:=Tryz.zeroValue88
 t26:=Tryz.underlying3
 a26:=Tryz.isAgg3
 z26:=Tryz.sizeOf3
 v26:=Tryz.zeroValue3
 t27:=Tryz.underlying175
 a27:=Tryz.isAgg175
 z27:=Tryz.sizeOf175
 v27:=Tryz.zeroValue175
 t28:=Tryz.underlying176
 a28:=Tryz.isAgg176
 z28:=Tryz.sizeOf176
 v28:=Tryz.zeroValue176
 t33:=Tryz.underlying91
 a33:=Tryz.isAgg91
 z33:=Tryz.sizeOf91
 v33:=Tryz.zeroValue91}
def sortedA_ren:Go.Shelf.Ren:=⟨fun|6=>110|8=>189|9=>64|11=>240|13=>126|12=>125|23=>208|24=>209|14=>199|15=>200|16=>201|17=>202|18=>203|19=>204|20=>205|21=>206|22=>207|25=>242|26=>243|27=>244|28=>245|29=>246|30=>247|31=>257|n=>n,fun|26=>3|28=>176|24=>61|0=>0|3=>3|37=>193|48=>274|50=>23|4=>4|40=>267|39=>266|45=>125|5=>5|9=>9|51=>316|55=>227|57=>326|58=>327|33=>91|n=>n,fun|n=>n⟩
theorem sortedA:Go.Proofs.SlLaysZI.n6 Tryz.prog sortedA_ren:={
 mixed:=by kernel_rfl
 f6:=⟨Tryz.f110.name,by decide,Tryz.func110.trans (congrArg some (by kernel_rfl))⟩
 f8:=⟨Tryz.f189.name,by decide,Tryz.func189.trans (congrArg some (by kernel_rfl))⟩
 f11:=⟨Tryz.f240.name,by decide,Tryz.func240.trans (congrArg some (by kernel_rfl))⟩
 t0:=Tryz.underlying0
 a0:=Tryz.isAgg0
 z0:=Tryz.sizeOf0
 v0:=Tryz.zeroValue0
 t24:=Tryz.underlying61
 a24:=Tryz.isAgg61
 z24:=Tryz.sizeOf61
 v24:=Tryz.zeroValue61
 t26:=Tryz.underlying3
 a26:=Tryz.isAgg3
 z26:=Tryz.sizeOf3
 v26:=Tryz.zeroValue3
 t28:=Tryz.underlying176
 a28:=Tryz.isAgg176
 z28:=Tryz.sizeOf176
 v28:=Tryz.zeroValue176
 i26:=by kernel_rfl}
def XH:Go.Shelf.Ren:=⟨fun|5=>64|8=>126|7=>125|19=>208|20=>209|10=>199|11=>200|12=>201|13=>202|14=>203|15=>204|16=>205|17=>206|18=>207|30=>242|31=>243|32=>244|33=>245|34=>246|35=>247|40=>257|n=>n,fun|23=>61|25=>3|3=>3|32=>193|22=>61|0=>0|44=>274|46=>23|4=>4|36=>267|35=>266|41=>125|5=>5|9=>9|53=>316|57=>227|63=>326|64=>327|n=>n,fun|n=>n⟩
theorem sortA:Go.Proofs.SlLaysM.n5 Tryz.prog XH:={
 mixed:=by kernel_rfl
 f5:=⟨Tryz.f64.name,by decide,Tryz.func64.trans (congrArg some (by kernel_rfl))⟩
 f7:=⟨Tryz.f125.name,by decide,Tryz.func125.trans (congrArg some (by kernel_rfl))⟩
 f8:=Tryz.func126.trans (congrArg some (by kernel_rfl))
 f10:=⟨Tryz.f199.name,by decide,Tryz.func199.trans (congrArg some (by kernel_rfl))⟩
 f11:=⟨Tryz.f200.name,by decide,Tryz.func200.trans (congrArg some (by kernel_rfl))⟩
 f12:=⟨Tryz.f201.name,by decide,Tryz.func201.trans (congrArg some (by kernel_rfl))⟩
 f13:=⟨Tryz.f202.name,by decide,Tryz.func202.trans (congrArg some (by kernel_rfl))⟩
 f14:=⟨Tryz.f203.name,by decide,Tryz.func203.trans (congrArg some (by kernel_rfl))⟩
 f15:=⟨Tryz.f204.name,by decide,Tryz.func204.trans (congrArg some (by kernel_rfl))⟩
 f16:=⟨Tryz.f205.name,by decide,Tryz.func205.trans (congrArg some (by kernel_rfl))⟩
 f17:=⟨Tryz.f206.name,by decide,Tryz.func206.trans (congrArg some (by kernel_rfl))⟩
 f18:=⟨Tryz.f207.name,by decide,Tryz.func207.trans (congrArg some (by kernel_rfl))⟩
 f19:=Tryz.func208.trans (congrArg some (by kernel_rfl))
 f20:=Tryz.func209.trans (congrArg some (by kernel_rfl))
 f30:=⟨Tryz.f242.name,by decide,Tryz.func242.trans (congrArg some (by kernel_rfl))⟩
 f31:=Tryz.func243.trans (congrArg some (by kernel_rfl))
 f32:=Tryz.func244.trans (congrArg some (by kernel_rfl))
 f33:=⟨Tryz.f245.name,by decide,Tryz.func245.trans (congrArg some (by kernel_rfl))⟩
 f34:=⟨Tryz.f246.name,by decide,Tryz.func246.trans (congrArg some (by kernel_rfl))⟩
 f35:=⟨Tryz.f247.name,by decide,Tryz.func247.trans (congrArg some (by kernel_rfl))⟩
 f40:=⟨Tryz.f257.name,by decide,Tryz.func257.trans (congrArg some (by kernel_rfl))⟩
 t0:=Tryz.underlying0
 a0:=Tryz.isAgg0
 z0:=Tryz.sizeOf0
 v0:=Tryz.zeroValue0
 t3:=Tryz.underlying3
 a3:=Tryz.isAgg3
 z3:=Tryz.sizeOf3
 v3:=Tryz.zeroValue3
 t4:=Tryz.underlying4
 a4:=Tryz.isAgg4
 z4:=Tryz.sizeOf4
 v4:=Tryz.zeroValue4
 t5:=Tryz.underlying5
 a5:=Tryz.isAgg5
 z5:=Tryz.sizeOf5
 v5:=Tryz.zeroValue5
 t9:=Tryz.underlying9
 a9:=Tryz.isAgg9
 z9:=Tryz.sizeOf9
 v9:=Tryz.zeroValue9
 t22:=Tryz.underlying61
 a22:=Tryz.isAgg61
 z22:=Tryz.sizeOf61
 v22:=Tryz.zeroValue61
 t23:=Tryz.underlying61
 a23:=Tryz.isAgg61
 z23:=Tryz.sizeOf61
 v23:=Tryz.zeroValue61
 t25:=Tryz.underlying3
 a25:=Tryz.isAgg3
 z25:=Tryz.sizeOf3
 v25:=Tryz.zeroValue3
 t32:=Tryz.underlying193
 a32:=Tryz.isAgg193
 z32:=Tryz.sizeOf193
 v32:=Tryz.zeroValue193
 t35:=Tryz.underlying266
 a35:=Tryz.isAgg266
 z35:=Tryz.sizeOf266
 v35:=Tryz.zeroValue266
 t36:=Tryz.underlying267
 a36:=Tryz.isAgg267
 z36:=Tryz.sizeOf267
 v36:=Tryz.zeroValue267
 t41:=Tryz.underlying125
 a41:=Tryz.isAgg125
 z41:=Tryz.sizeOf125
 v41:=Tryz.zeroValue125
 t44:=Tryz.underlying274
 a44:=Tryz.isAgg274
 z44:=Tryz.sizeOf274
 v44:=Tryz.zeroValue274
 t46:=Tryz.underlying23
 a46:=Tryz.isAgg23
 z46:=Tryz.sizeOf23
 v46:=Tryz.zeroValue23
 t53:=Tryz.underlying316
 a53:=Tryz.isAgg316
 z53:=Tryz.sizeOf316
 v53:=Tryz.zeroValue316
 t57:=Tryz.underlying227
 a57:=Tryz.isAgg227
 z57:=Tryz.sizeOf227
 v57:=Tryz.zeroValue227
 t63:=Tryz.underlying326
 a63:=Tryz.isAgg326
 z63:=Tryz.sizeOf326
 v63:=Tryz.zeroValue326
 t64:=Tryz.underlying327
 a64:=Tryz.isAgg327
 z64:=Tryz.sizeOf327
 v64:=Tryz.zeroValue327}
theorem sortsA(m:Nat):AnyZI.SortsIn Tryz.prog sortedA_ren Fence.wide m:=
 ⟨fun blk off cap ss W hH hblk hsz=>callsIn_wide.2 (AnyM.slices_Sort_int sortA blk off cap ss W hH hblk hsz),
  fun p cap W=>callsIn_wide.2 (AnyM.slices_Sort_int_none sortA p cap W)⟩
theorem aaP(mb:Option Nat)(W:World):Calls Tryz.prog 111 #[.map mb] W fun e w'=>e=.returned (.func (.func 190) #[] #[.pointer (some ⟨W.heap.size,0,none⟩)])/\w'=W.alloc (.cells #[.map mb] 88):=
 (callsIn_wide (n:=5)).1 (AnyZI.keys_in keysA Fence.wide 5 trivial rfl mb W)
theorem UA{H:Type}(b nn:Nat)(D0:DataW H)(R:Value->Option (DataW H×List MemPlace))(w:World)(hown:w.ownsMap Tryz.prog 3 R b nn D0)(hmax:Maps.size D0<=maxLen)(hbytes:Maps.size D0*8<=140737488355328):
  Calls Tryz.prog 110 #[.func (.func 190) #[] #[.pointer (some ⟨w.heap.size,0,none⟩)]] (w.alloc (.cells #[.map (some b)] 88)) fun e w'=>∃(v:Value) (ss:List Int),e=.returned v/\ss.Perm (intKeys D0)/\
   w'.ownsRow (w.heap.size+1) 3 1 v ss.length ((ss.mergeSort (fun x y=>decide (x<=y))).map encZ)/\Below (w.heap.size+1) (w.alloc (.cells #[.map (some b)] 88)) w':=by
 have hbl:=hown.lt
 have hseq:SeqGives Fence.wide 2 Tryz.prog 190 #[.pointer (some ⟨w.heap.size,0,none⟩)] encZ (fun ss=>ss.Perm (intKeys D0)) (Maps.size D0) (w.alloc (.cells #[.map (some b)] 88)):=
  AnyZI.keys_gives (ρ:=keysA_ren) {keysA with} Fence.wide _ trivial rfl (by omega) w.heap.size b nn D0 _ (by simp) (by simp) (by
   obtain⟨es,clock,hb,Ft,hs,hD⟩:=hown
   exact⟨es,clock,(Below.heap_alloc _ _ b hbl).trans hb,Ft,hs,hD⟩)
 have cS:=AnyZI.sorted_in sortedA Fence.wide 5 trivial trivial trivial trivial rfl (by omega) (sortsA _) (enters_of Tryz.func64 (by kernel_rfl) rfl) 190 #[.pointer (some ⟨w.heap.size,0,none⟩)] trivial (enters_of Tryz.func190 (by kernel_rfl) rfl) _ _ hmax hbytes _ hseq
 change CallsIn _ _ Tryz.prog 110 _ _ _ at cS
 refine((callsIn_wide (n:=5)).1 cS).mono ?_
 rintro e w' ⟨v,ss,rfl,hS,hrow,hnil,hb⟩
 have hz:(w.alloc (.cells #[.map (some b)] 88)).heap.size=w.heap.size+1:=by simp
 rw[hz]at hrow hb
 exact⟨v,ss,rfl,hS,hrow,hb⟩
end It
end Go.Proofs.YtfjdpbbgfjhnlaaGreat

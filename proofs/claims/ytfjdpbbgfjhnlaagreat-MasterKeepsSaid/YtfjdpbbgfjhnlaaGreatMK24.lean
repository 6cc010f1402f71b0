/- Part 25 of what the proof needs. -/
import Derived.Test.YtfjdpbbgfjhnlaaGreatMK23
set_option linter.unusedSimpArgs false
set_option linter.unusedVariables false
set_option maxHeartbeats 32000000
set_option maxRecDepth 100000
namespace Go.Proofs.YtfjdpbbgfjhnlaaGreat
open Go.RowKit
set_option maxRecDepth 100000
namespace Pt
open aH Fr Vn Ops Wl
def EG(d:Nat->Nat):Nat->Nat
 |0=>0
 |i+1=>EG d i+d i
theorem Yt{d:Nat->Nat}{b:Nat}(h:∀i,d i<=b):∀k,EG d k<=k*b
 |0=>Nat.zero_le _
 |k+1=>by have:=Yt h k;have:=h k;show EG d k+d k<=_;rw[Nat.succ_mul];omega
section
variable{w:World}{B gp gw g n c:Nat}{F:Nat->Prop}{m:aH.Safe}{ps:List aH.Pc}{aU aK first:Int}{R:St}{T:List (List UInt8)}{A:Option Addr}{l:List ByteArray}
theorem Lu(h:lu w B gp gw g F n m ps aU aK first R T A c l)(hf:Fits n m ps)(hK:(cur R T).length<=100000)(h2:first<=1073741824):
  Calls Tryz.prog 67 #[.pointer (some ⟨gp,0,none⟩)] w fun e w'=>e=.returned (.int .i64 (EG (fun j=>(dataOf m ps (first+j)).size) (cur R T).length:Nat))/\Kept aj w w':=by
 have hno:=wU h.p
 have hfi:=pX h.d hf.i64 hf.n (by have:=hf.len;omega)
 have hif:=h.low.bW h.log
 have hf1:=h.f1
 have hsb:∀j:Nat,(dataOf m ps (first+j)).size<=66000:=fun j=>by rw[(h.log.file j).2,lQ];exact Ye (OH h.log.ok h.log.T) j
 have hda:=fun(x:Int) (hx:0<=x/\x<=2305843009213693952) (W:World) (hW:Kept aj w W)=>yO (h.d.kept hW (fun _ _ z=>z)) x (fZ hx.1 (by omega)) (by have:=hf.len;omega) (by have:=hf.file x;have:=hf.total;omega)
 obtain⟨d,hd⟩:∃d:Nat->Nat,(fun j:Nat=>(dataOf m ps (first+j)).size)=d:=⟨_,rfl⟩
 have hdj:∀j:Nat,(dataOf m ps (first+j)).size=d j:=fun j=>by rw[<-hd]
 have hdb:∀j,d j<=66000:=fun j=>by rw[<-hdj j];exact hsb j
 have hsz:=Yt hdb
 obtain⟨K,hKe⟩:∃K,(cur R T).length=K:=⟨_,rfl⟩
 rw[hKe]at hif hK⊢
 rw[hd]
 have hp:=h.p
 have c1:w.cell? ⟨gp,1,none⟩=some (.pointer (some ⟨g,0,none⟩)):=hp.cell 1
 have jl:=ah hno;have pY:=ah hfi;have HIF:=ah hif;have Gg:=ah hda;have HDJ:=ah hdj;have HDB:=ah hdb;have lD:=ah hsz;have HP:=ah hp
 clear hno hfi hif hda hdj hdb hsz h hf hsb hd hp hKe
 go_enter Tryz.func67,Tryz.ntmps67
 go_wp2_with fail
 refine jl.out.mono ?_
 rintro e w' ⟨rfl,rfl⟩
 go_wp2_with fail
 refine pY.out.mono ?_
 rintro e w1 ⟨fl,A1,c1',rfl,hfa,hown,-,hk1⟩
 have hfl:=IW hfa HIF.out (by omega) (by omega)
 have hlen:fl.length=K:=by rw[hfl];simp[nums]
 have hsrc:=Src.bC hown
 rw[hlen]at hsrc⊢
 have hget:∀i:Nat,i<K->fl[i]? =some (first+i):=by
  intro i hi
  rw[hfl]
  unfold nums
  rw[List.getElem?_map,List.getElem?_range hi]
  rfl
 have OP:=ah hsrc;have abj:=ah hget;have fF:=ah hk1
 clear hfa hown hk1 hfl hlen hsrc hget c1
 go_wp2_with fail
 go_loopw [3,14] (fun v3 v14 wr=>∃i:Nat,i<=K/\v14=.int .i64 i/\v3=.int .i64 (EG d i:Nat)/\Kept aj w1 wr) (fun _ v14 _=>K-(intOf v14).toNat)
 case atStart=>exact⟨0,Nat.zero_le _,rfl,rfl,Kept.refl _ _⟩
 case round=>
  obtain⟨i,hi,rfl,rfl,hk⟩:=hrel
  by_cases hil:i<K
  ·have hx:=abj.out i hil
   obtain⟨ad,rfl,-,e0⟩:=yP.uK (OP.out.kept hk (fun _ _ z=>z)) (by omega) i _ hx
   obtain⟨x,hxe⟩:∃x,first+(i:Int)=x:=⟨_,rfl⟩
   rw[hxe]at e0 hx
   have hpr:=(HP.out.kept fF.out (fun z=>z)).kept hk (fun z=>z)
   have d1:wr.cell? ⟨gp,1,none⟩=some (.pointer (some ⟨g,0,none⟩)):=hpr.cell 1
   have d2:wr.cell? ⟨gp,2,none⟩=some (.int .i64 first):=hpr.cell 2
   have q1:first<=x:=by omega
   have hda:=Gg.out x ⟨by omega,by omega⟩ wr (fF.out.then hk)
   obtain⟨D,hD⟩:∃D,dataOf m ps x=D:=⟨_,rfl⟩
   have hDs:D.size=d i:=by rw[<-hD,<-hxe];exact HDJ.out i
   rw[hD]at hda
   have hb1:=lD.out i
   have hb2:=HDB.out i
   have hst:EG d (i+1)=EG d i+D.size:=by rw[hDs];rfl
   have hq:EG d i<=6600000000:=by omega
   have hq2:D.size<=66000:=by omega
   obtain⟨z,hz⟩:∃z,EG d i=z:=⟨_,rfl⟩
   rw[hz]at hst hq⊢
   have HD:=ah hda;have HST:=ah hst;have HK:=ah hk
   clear hk hx hpr hda hD hDs hb1 hb2 hst hz hxe
   go_wp2_with fail
   refine HD.out.mono ?_
   rintro e w3 ⟨rfl,hk3⟩
   have bn:=ah (HK.out.then hk3)
   clear hk3
   go_wp2
   go_roundw
   case rel=>exact⟨i+1,by omega,by go_num,by rw[HST.out];go_num,bn.out⟩
   case measure=>simp[intOf];omega
  ·obtain rfl:i=K:=by omega
   have HK:=ah (fF.out.then hk)
   clear hk
   go_wp2
   go_ret
   exact⟨rfl,HK.out⟩
theorem UQ{v0:Value}{f:Int}(hp:Ey w gp v0 g f (.slice A l.length c))(hr:Src w 1 A l.length (l.map Value.string))(hl:l.length<=1000000):
  Calls Tryz.prog 36 #[.pointer (some ⟨gp,0,none⟩)] w fun e w'=>∃A' c',e=.returned (.slice A' l.length c')/\aF 9 1 w.heap.size w' A' l.length c' (l.map Value.string)/\Below w.heap.size w w':=by
 have hno:=wU hp
 have hcl:=clone_any w A c l hr (by omega)
 have c3:w.cell? ⟨gp,3,none⟩=some (.slice A l.length c):=hp.cell 3
 have jl:=ah hno;have nX:=ah hcl
 clear hno hcl hp hr hl
 go_enter Tryz.func36,Tryz.ntmps36
 go_wp2_with fail
 refine jl.out.mono ?_
 rintro e w' ⟨rfl,rfl⟩
 go_wp2_with fail
 refine nX.out.mono ?_
 rintro e w' ⟨A',c',rfl,h1,h2⟩
 go_wp2
 go_ret
 exact⟨A',c',rfl,h1,h2⟩
end
end Pt
namespace Pt
open aH Fr Vn Ops Wl
section
variable{w:World}{B gp gw g n c:Nat}{F:Nat->Prop}{m:aH.Safe}{ps:List aH.Pc}{aU aK first:Int}{R:St}{T:List (List UInt8)}{A:Option Addr}{l:List ByteArray}
def Yu(w:World)(B gp gw g:Nat)(F:Nat->Prop)(n:Nat)(m:aH.Safe)(ps:List aH.Pc)(aU aK first:Int)(R:St)(T:List (List UInt8))(A:Option Addr)(c:Nat)(l:List ByteArray)(s:ByteArray)(e:Ending)(w':World):Prop:=
 e=.returned (.int .i64 0)/\∃F' A' c',lu w' B gp gw g F' n m (ps++[(first+lastOf (cur R T),bG (bI (84::bl s)))]) aU aK first R (T++[84::bl s]) A' c' (l++[s])/\Kept (PF gp gw F A l.length c) w w'/\(∀k,F' k->F k\/w.heap.size<=k)/\(∀k,(Value.slice A' (l++[s]).length c').ownBlock=some k->(Value.slice A l.length c).ownBlock=some k\/w.heap.size<=k)
theorem Yv(h:lu w B gp gw g F n m ps aU aK first R T A c l)(hf:Fits n m ps)(hB:B<=w.heap.size)(h2:first+lastOf (cur R T)<=1073741824)(hl:l.length<=1000000)(s:ByteArray)(hs:s.size<65536):
  Calls Tryz.prog 63 #[.pointer (some ⟨gp,0,none⟩),.string s] w (Yu w B gp gw g F n m ps aU aK first R T A c l s):=by
 have hno:=wU h.p
 have hlo:=fun W=>vJ W s false (decide_eq_false (by omega))
 have hap:=Gh h.d h.wl h.log hf h.f1 h2 (bG (84::bl s)) (by rw[lQ];simp[bJ];omega)
 rw[jd]at hap
 have c0:w.cell? ⟨gp,0,none⟩=some (.pointer (some ⟨gw,0,none⟩)):=h.p.cell 0
 have q1:¬9223372036854775807<(⟨#[84]⟩:ByteArray).size+s.size:=by show¬_<1+_;omega
 have H:=ah h;have jl:=ah hno;have WC:=ah hlo;have Yh:=ah hap;have HF:=ah hf
 have hM:l.length+1<=maxLen:=by unfold maxLen;omega
 have hY:(l.length+1)*16<=140737488355328:=by omega
 have Ou:=ah hM;have HY:=ah hY
 clear h hno hlo hap hf hM hY
 go_enter Tryz.func63,Tryz.ntmps63
 go_wp2_with fail
 refine jl.out.mono ?_
 rintro e w' ⟨rfl,rfl⟩
 go_wp2_with fail
 refine(WC.out _).mono ?_
 rintro e w' ⟨rfl,rfl⟩
 go_wp2_with fail
 rw[acI]
 refine Yh.out.mono ?_
 rintro e w3 ⟨rfl,F3,hd3,hG3,hw3,hk3⟩
 have hp3:=H.out.p.kept hk3 (fun hh=>by rcases hh with hh|hh;exact H.out.EF.1 hh;exact H.out.EF.2.2 hh)
 have hr3:=aC H.out.row.1 hk3 (fun k hk hh=>by rcases hh with hh|hh;exact(H.out.Fq hk).1 hh;exact(H.out.Fq hk).2.2 hh)
 have d3:w3.cell? ⟨gp,3,none⟩=some (.slice A l.length c):=hp3.cell 3
 have f3:=hp3.frozen 3
 have hgl:=hp3.lt
 have HD3:=ah hd3;have HG3:=ah hG3;have HW3:=ah hw3;have bn:=ah hk3;have wH:=ah hp3;have HR3:=ah hr3
 have HOW:=ah (aC hr3 (F:=aj) ((Kept.refl _ w3).alloc (.cells #[.string s] 9)) (fun _ _ z=>z))
 clear hd3 hG3 hw3 hk3 hp3 hr3 q1 c0
 go_wp2_with (at_builtin;refine aN xZ (.tmp 26) (.tmp 28) rfl rfl (Value.slice A l.length c) rfl HOW.out 1 rfl (Src.dn (m:=1) (Has.new w3 9 #[.string s]) rfl) (Be _) Ou.out HY.out ?_;intro A9 c9 w9 zG zH zI;have hkr:Kept (fun k=>(Value.slice A l.length c).ownBlock=some k) w3 w9:=Kept.grown ((Kept.refl _ w3).alloc _) zH (fun k hk=> .inl hk);have hp9:=wH.out.kept hkr (fun hk=>(H.out.Fq hk).2.1 rfl);have d9:=hp9.cell 3;have f9:=hp9.frozen 3;have vw:=ah zG;have KY:=ah zI;have qH:=ah hkr;have HP9:=ah hp9;clear zG zH zI hkr hp9)
 go_ret
 have uI:Kept (fun k=>k=gp) w9 (w9.setCell ⟨gp,3,none⟩ (.slice A9 (l.length+1) c9)):=(Kept.refl _ w9).put (.inl rfl)
 have hlen:(l++[s]).length=l.length+1:=by simp
 have hF3:∀k,F3 k->∀t cs,Has w3 k t cs->t≠72->t≠93->False:=fun k hk t cs hh e1 e2=>aX.not HD3.out hh e1 e2 hk
 have hdr:∀k,F3 k->¬(Value.slice A l.length c).ownBlock=some k:=fun k hk hb=>by
  obtain⟨cs,hh⟩:=jC HR3.out hb
  exact hF3 k hk _ _ hh (by decide) (by decide)
 have hd9:=HD3.out.kept qH.out hdr
 have ag2:=HP9.out.put 3 (.slice A9 (l.length+1) c9)
 have hw9:=HW3.out.kept qH.out (fun hk=>by
  obtain⟨cs,hh⟩:=jC HR3.out hk
  exact Has.ne hh HW3.out (by decide) rfl)
 refine⟨rfl,F3,A9,c9,⟨hd9.kept uI (fun k hk e=>hF3 k hk _ _ (e▸wH.out) (by decide) (by decide)),?_,hw9.kept uI (fun e=>H.out.EF.2.2 e.symm),⟨?_,?_⟩,H.out.log.append (by simp[bJ];omega),H.out.low.append (by omega),H.out.f1,?_,?_⟩,?_,fun k hk=>HG3.out k hk,?_⟩
 ·rw[hlen];exact ag2
 ·rw[hlen,List.map_append]
  exact aC vw.out uI (fun k hk e=>by
   obtain⟨cs,hh⟩:=jC vw.out hk
   exact Has.ne hh (e▸HP9.out) (by decide) rfl)
 ·intro k hk
  rw[hlen]at hk
  rcases KY.out with e|e
  ·exact H.out.row.2 k (e.symm.trans hk)
  ·have h9:=e.symm.trans hk
   injection h9 with h9
   have:=bn.out.size
   simp at h9
   omega
 ·obtain⟨k,h3,h4⟩:=H.out.tx
  exact⟨k,by rw[OO,<-h3,List.append_assoc],h4⟩
 ·intro x hx
  rcases List.mem_append.1 hx with hx|hx
  ·exact H.out.hs x hx
  ·simp at hx;subst hx;exact hs
 ·refine(((bn.out.mono (fun k hk=> ?_)).then (qH.out.mono (fun k hk=> ?_)))).then (uI.mono (fun k hk=> ?_))
  ·rcases hk with hk|hk
   ·exact .inl hk
   ·exact .inr (.inr (.inl hk))
  ·exact .inr (.inr (.inr hk))
  ·exact .inr (.inl hk)
 ·intro k hk
  rw[hlen]at hk
  rcases KY.out with e|e
  ·exact .inl (e.symm.trans hk)
  ·have h9:=e.symm.trans hk
   injection h9 with h9
   have:=bn.out.size
   simp at h9
   exact .inr (by omega)
def Yw(w:World)(B gp gw g:Nat)(F:Nat->Prop)(n:Nat)(m:aH.Safe)(ps:List aH.Pc)(aU aK first:Int)(R:St)(T:List (List UInt8))(A:Option Addr)(c:Nat)(l:List ByteArray)(e:Ending)(w':World):Prop:=
 (∃k:Int,e=.returned (.int .i64 k))/\lu w' B gp gw g F (n+ps.length) (lG m ps) [] aU aK first (cur R T) [] A c l/\Kept F w w'
theorem Yx(h:lu w B gp gw g F n m ps aU aK first R T A c l)(hf:Fits n m ps):Calls Tryz.prog 66 #[.pointer (some ⟨g,0,none⟩)] w (Yw w B gp gw g F n m ps aU aK first R T A c l):=by
 have EC:=hf.total
 refine(Ov h.d hf.i64 (by have:=hf.len;omega) (by have:=hf.n;omega) 100000 hf.file (by omega)).mono ?_
 rintro e w' ⟨rfl,h1,h2⟩
 refine⟨⟨_,rfl⟩,⟨h1,h.p.kept h2 h.EF.1,h.wl.kept h2 h.EF.2.1,⟨aC h.row.1 h2 (fun k hk=>(h.Fq hk).1),h.row.2⟩,h.log.sync,h.low.sync,h.f1,?_,h.hs⟩,h2⟩
 obtain⟨k,h3,h4⟩:=h.tx
 refine⟨k,by rw[qU,List.append_nil,h3],?_⟩
 rw[qU,List.length_append]
 omega
end
end Pt
namespace Mst
def wV(w:World)(a:Addr):Array Value:=((List.range 18).map fun j=>(w.cell? (a.add j)).getD undef).toArray
def Bq(w:World)(a:Addr):Prop:=∀j,j<18->(w.cell? (a.add j)).isSome=true
def CW(a:Addr):Sem Value:=loadVar 83 a
theorem uO(a:Addr):loadVar 83 a=CW a:=rfl
theorem uP(w:World)(a:Addr)(h:Bq w a):(CW a).run Tryz.prog w=.ok (.agg (wV w a)) w:=by
 have hl:=run_loadCells (P:=Tryz.prog) w a 18 (fun j=>(w.cell? (a.add j)).getD undef) (fun j hj=>by
  obtain⟨v,hv⟩:=Option.isSome_iff_exists.1 (h j hj)
  rw[hv];rfl)
 have hi:(Tryz.prog.info? 83).map (·.size)=some 18:=by kernel_rfl
 have hagg:∀W,(isAgg 83).run Tryz.prog W=.ok true W:=fun W=>by
  unfold isAgg
  rw[Sem.run_bind,run_underlying Tryz.underlying83 W]
  rfl
 cases hq:Tryz.prog.info? 83 with
 |none=>simp[hq]at hi
 |some i=>
  have hs:i.size=18:=by simpa [hq]using hi
  unfold CW
  simp[loadVar,Sem.run_bind,hagg,sizeOf,typeInfo,hq,hs,hl,wV]
theorem LC{w:World}{a:Addr}{cs:List Value}(hn:cs.length=18)(h:∀j u,cs[j]? =some u->w.cell? (a.add j)=some u):Bq w a/\wV w a=cs.toArray:=by
 refine⟨fun j hj=> ?_,?_⟩
 ·rw[h j _ (List.getElem?_eq_getElem (by omega))];rfl
 ·unfold wV
  congr 1
  apply List.ext_getElem?
  intro j
  rcases Nat.lt_or_ge j 18 with hj|hj
  ·rw[List.getElem?_map,List.getElem?_range hj,List.getElem?_eq_getElem (by omega:j<cs.length)]
   simp[h j _ (List.getElem?_eq_getElem (by omega:j<cs.length))]
  ·rw[List.getElem?_eq_none (by simpa using hj),List.getElem?_eq_none (by omega)]
theorem uQ{w:World}{g:Nat}{cs:List Value}(hn:cs.length=18)(h:Has w g 83 cs.toArray):Bq w ⟨g,0,none⟩/\wV w ⟨g,0,none⟩=cs.toArray:=by
 refine LC hn fun j u hu=> ?_
 have e1:((⟨g,0,none⟩:Addr).add j)=⟨g,j,none⟩:=by unfold Addr.add;split<;>simp_all
 rw[e1,h.cell]
 simpa using hu
end Mst
namespace Mst
open aO Vn Go.Sort
theorem Ai(f:Nat->Int->Int):∀(l:List Int) (i:Nat),jR f l i=0↔∀j x,l[j]? =some x->f (i+j) x=0
 |[],i=>by simp[jR]
 |a::l,i=>by
  rw[jR]
  split
  ·rename_i h
   rw[Ai f l (i+1)]
   constructor
   ·intro h2 j x hx
    cases j with
    |zero=>obtain rfl:a=x:=by simpa using hx
           exact h
    |succ j=>have:=h2 j x (by simpa using hx);rwa[show i+1+j=i+(j+1) by omega]at this
   ·intro h2 j x hx
    have:=h2 (j+1) x (by simpa using hx)
    rwa[show i+(j+1)=i+1+j by omega]at this
  ·rename_i h
   constructor
   ·intro h2;exact absurd h2 h
   ·intro h2;exact absurd (h2 0 a rfl) h
theorem LD{x:Int}:xu x=0↔0<=x/\x<=1073741824:=by
 unfold xu
 split<;>constructor<;>intro h<;>first|omega|(simp at h;done)|rfl
theorem wW{l:List Int}:gW l=0↔∀x∈l,0<=x/\x<=1073741824:=by
 unfold gW
 rw[Ai]
 constructor
 ·intro h x hx
  obtain⟨j,hj⟩:=List.mem_iff_getElem?.1 hx
  exact LD.1 (h j x hj)
 ·intro h j x hx
  exact LD.2 (h x (List.mem_of_getElem? hx))
theorem EH{l:List Int}{i:Nat}{x:Int}:vI l i x=0↔(0<=x/\x<4)/\(0<i->l.getD (i-1) 0<x):=by
 unfold vI
 split
 ·rename_i h
  constructor
  ·intro h2;omega
  ·intro h2;omega
 ·rename_i h
  split
  ·rename_i h2
   constructor
   ·intro h3;omega
   ·intro h3;have:=h3.2 h2.1;omega
  ·rename_i h2
   constructor
   ·intro _
    refine⟨by omega,fun h0=> ?_⟩
    rcases Int.lt_or_le (l.getD (i-1) 0) x with h3|h3
    ·exact h3
    ·exact absurd ⟨h0,h3⟩ h2
   ·intro _;rfl
theorem Yy:∀(l:List Int),l.Pairwise (· <·)->(∀x∈l,0<=x)->∀(i:Nat) (x:Int),l[i]? =some x->(i:Int)<=x:=by
 intro l hl h0 i
 induction i with
 |zero=>intro x hx;have:=h0 x (List.mem_of_getElem? hx);simpa using this
 |succ i ih=>
  intro x hx
  obtain⟨hi,e⟩:=List.getElem?_eq_some_iff.1 hx
  have h1:=ih l[i] (List.getElem?_eq_getElem (by omega))
  have h2:=(List.pairwise_iff_getElem.1 hl) i (i+1) (by omega) hi (by omega)
  rw[e]at h2
  omega
theorem zL{l:List Int}:mV l=0↔(∀x∈l,0<=x/\x<4)/\l.Pairwise (· <·):=by
 unfold mV
 split
 ·rename_i h
  constructor
  ·intro h2;omega
  ·rintro⟨h1,h2⟩
   have h3:=Yy l h2 (fun x hx=>(h1 x hx).1) 4 l[4] (List.getElem?_eq_getElem h)
   have:=h1 l[4] (List.getElem_mem h)
   omega
 ·rename_i h
  rw[Ai]
  constructor
  ·intro h2
   have hstep:∀i (hi:i+1<l.length),l[i]<l[i+1]:=by
    intro i hi
    have:=(EH.1 (h2 (i+1) l[i+1] (List.getElem?_eq_getElem hi))).2 (by omega)
    rw[Nat.zero_add,Nat.add_sub_cancel,List.getD_eq_getElem?_getD,List.getElem?_eq_getElem (by omega:i<l.length)]at this
    simpa using this
   refine⟨fun x hx=> ?_,List.pairwise_iff_getElem.2 ?_⟩
   ·obtain⟨j,hj⟩:=List.mem_iff_getElem?.1 hx
    exact(EH.1 (h2 j x hj)).1
   ·intro i j hi hj hij
    obtain⟨d,rfl⟩:∃d,j=i+1+d:=⟨j-(i+1),by omega⟩
    clear hij
    induction d with
    |zero=>exact hstep i hj
    |succ d ih=>exact Int.lt_trans (ih (by omega)) (hstep (i+1+d) hj)
  ·rintro⟨h1,h2⟩ j x hx
   rw[Nat.zero_add]
   refine EH.2 ⟨h1 x (List.mem_of_getElem? hx),fun h0=> ?_⟩
   obtain⟨hj,e⟩:=List.getElem?_eq_some_iff.1 hx
   rw[List.getD_eq_getElem?_getD,List.getElem?_eq_getElem (by omega:j-1<l.length)]
   have:=(List.pairwise_iff_getElem.1 h2) (j-1) j (by omega) hj (by omega)
   rw[e]at this
   simpa using this
theorem Rk{l:List Int}(h:mV l=0):l.length<=4:=by
 unfold mV at h
 split at h
 ·omega
 ·omega
theorem rO{l:List Int}{x:Int}:inB l x=true↔x∈l:=by unfold inB;exact List.contains_iff_mem
theorem LG{l:List Int}{x:Int}:x∈sS l↔x∈l:=(List.mergeSort_perm l _).mem_iff
theorem O6{l:List Int}(hn:l.Nodup):(sS l).Pairwise (· <·):=by
 have h1:(sS l).Pairwise (fun a b=>decide (a<=b)=true):=List.pairwise_mergeSort (le:=fun a b:Int=>decide (a<=b)) (by intro a b c;simp;omega) (by intro a b;simp;omega) l
 have h2:(sS l).Nodup:=(List.mergeSort_perm l _).nodup_iff.2 hn
 exact(List.Pairwise.and h1 h2).imp (fun{a b} h=>by
  have h3:=of_decide_eq_true h.1
  have h4:=h.2
  omega)
structure Inv(s:bQ):Prop where
 conf:(s.ep=0/\s.ms=[]/\s.fl=0/\s.lg=[])\/(chk s.ep s.ms=0/\mV s.lg=0/\(∀x∈s.lg,bY s.ms x=true)/\nH s.ms∈s.lg/\0<=s.fl)
 hz:0<=s.hz
 pl:s.pins.length<=3
 xg:s.pins.Pairwise (fun a b=>a.id<b.id)
 pin:∀p∈s.pins,1<=p.id/\p.id<=s.top/\p.left=8/\0<=p.at'
 top:0<=s.top/\s.top<=1073741824
 a0:s.t0=jD\/(saidE s.t0=0/\s.t0.cl=0)
 a1:s.t1=jD\/(saidE s.t1=0/\s.t1.cl=1)
 a2:s.t2=jD\/(saidE s.t2=0/\s.t2.cl=2)
theorem inv0:Inv st0:=⟨.inl ⟨rfl,rfl,rfl,rfl⟩,by decide,by decide,List.Pairwise.nil,(fun p hp=>by cases hp),⟨by decide,by decide⟩,.inl rfl,.inl rfl,.inl rfl⟩
theorem Inv.ok{s:bQ}(h:Inv s):nZ s:=by
 rcases h.conf with⟨_,h1,_,h2⟩|⟨h1,h2,_⟩
 ·exact⟨by rw[h1];decide,by rw[h2];decide,by have:=h.pl;omega⟩
 ·exact⟨by have:=(iT h1).2.2.1;omega,by have:=Rk h2;omega,by have:=h.pl;omega⟩
theorem LH{l:List Mem}{x:Int}:bY l x=true↔∃m∈l,m.1=x:=by simp[bY]
theorem UR{l:List aY}{id:Int}(h:0<=dJ l id):∃(k:Nat) (x:aY),dJ l id=(k:Int)/\l[k]? =some x/\x.id=id:=by
 rcases oH l id with h1|h1
 ·omega
 ·exact h1
theorem O7{l:List aY}{id:Int}(h:∀p∈l,p.left=8)(h0:0<=dJ l id):jB l id=l:=by
 unfold jB
 obtain⟨k,y,h1,hy,hid⟩:=UR h0
 rw[h1,Int.toNat_natCast,hy]
 have hl:=h y (List.mem_of_getElem? hy)
 have e:(⟨id,y.at',8⟩:aY)=y:=by rw[<-hid,<-hl]
 obtain⟨h2,h3⟩:=List.getElem?_eq_some_iff.1 hy
 show l.set k ⟨id,y.at',8⟩=l
 rw[e,<-h3]
 exact List.set_getElem_self h2
theorem LJ(l:List aY)(id:Int):(freed l id).Sublist l:=by
 unfold freed
 split
 ·exact List.Sublist.refl _
 ·exact List.eraseIdx_sublist ..
theorem adE{x:aG}(h:aQ x=0)(hk:x.k=7):0<=x.n/\x.n<=1073741824:=by
 unfold aQ at h
 rw[if_neg (by omega),if_neg (by omega),if_pos (by omega)]at h
 exact wW.1 h x.n (by simp)
theorem LK{x:aG}(h:aQ x=0)(hk:x.k=6):0<=x.pin.id/\x.pin.id<=1073741824:=by
 unfold aQ at h
 rw[if_neg (by omega),if_neg (by omega),if_neg (by omega),if_pos hk]at h
 exact wW.1 h x.pin.id (by simp)
theorem IY{x:aG}(h:aQ x=0)(hk:x.k=1):chk x.ep x.ms=0/\mV x.lg=0:=by
 unfold aQ at h
 rw[if_pos hk]at h
 split at h
 ·rename_i h1;exact⟨h1,h⟩
 ·rename_i h1;exact absurd h h1
theorem IZ{x:aG}(h:aQ x=0)(hk:x.k=8):saidE x.said=0:=by
 unfold aQ at h
 rw[if_neg (by omega),if_neg (by omega),if_neg (by omega),if_neg (by omega),if_pos hk]at h
 exact h
theorem adF{a:jK}(h:saidE a=0):a.cl=0\/a.cl=1\/a.cl=2:=by
 unfold saidE at h
 split at h
 ·omega
 ·omega
theorem mZ{s:bQ}{x:aG}(h:bu s x=0):aQ x=0:=by
 unfold bu at h
 split at h
 ·rename_i h1;exact absurd h h1
 ·rename_i h1;exact Classical.not_not.1 h1
theorem Aj{s:bQ}{x:aG}(h:bu s x=0):x.k=1\/x.k=5\/x.k=4\/x.k=6\/x.k=7\/x.k=8:=by
 have hn:=mZ h
 unfold bu at h
 rw[if_neg (by simpa using hn)]at h
 by_cases h1:x.k=1
 ·exact .inl h1
 by_cases h5:x.k=5
 ·exact .inr (.inl h5)
 by_cases h4:x.k=4
 ·exact .inr (.inr (.inl h4))
 by_cases h6:x.k=6
 ·exact .inr (.inr (.inr (.inl h6)))
 by_cases h7:x.k=7
 ·exact .inr (.inr (.inr (.inr (.inl h7))))
 by_cases h8:x.k=8
 ·exact .inr (.inr (.inr (.inr (.inr h8))))
 rw[if_neg h1,if_neg h5,if_neg h4,if_neg h6,if_neg h7,if_neg h8]at h
 omega
theorem Yz{s:bQ}{x:aG}(h:bu s x=0):(x.k=1->lW s x=0)/\(x.k=5->bY s.ms x.n=true)/\(x.k=4->¬x.at'<s.hz)/\(x.k=6->pJ s x.pin=0)/\(x.k=8->¬x.said.req<(toldOf s x.said.cl).req):=by
 have hn:=mZ h
 unfold bu at h
 rw[if_neg (by simpa using hn)]at h
 refine⟨fun hk=> ?_,fun hk=> ?_,fun hk=> ?_,fun hk=> ?_,fun hk=> ?_⟩
 ·rw[if_pos hk]at h;exact h
 ·rw[if_neg (by omega),if_pos hk]at h
  split at h
  ·assumption
  ·omega
 ·rw[if_neg (by omega),if_neg (by omega),if_pos hk]at h
  split at h
  ·omega
  ·assumption
 ·rw[if_neg (by omega),if_neg (by omega),if_neg (by omega),if_pos hk]at h;exact h
 ·rw[if_neg (by omega),if_neg (by omega),if_neg (by omega),if_neg (by omega),if_neg (by omega),if_pos hk]at h
  split at h
  ·omega
  ·assumption
theorem US{s:bQ}{x:aG}(h:lW s x=0):s.ep<x.ep/\(∀y∈x.lg,bY x.ms y=true)/\nH x.ms∈x.lg:=by
 unfold lW at h
 split at h
 ·omega
 ·split at h
  ·omega
  ·split at h
   ·omega
   ·rename_i h1 h2 h3
    refine⟨by omega,fun y hy=> ?_,?_⟩
    ·cases hb:bY x.ms y
     ·exfalso;exact h2 (List.any_eq_true.2 ⟨y,hy,by rw[hb];rfl⟩)
     ·rfl
    ·refine rO.1 ?_
     cases hb:inB x.lg (nH x.ms)
     ·exact absurd hb h3
     ·rfl
theorem YA{s:bQ}{p:aY}(h:pJ s p=0)(h0:¬0<=dJ s.pins p.id):s.pins.length<3/\s.top<p.id/\s.hz<=p.at':=by
 unfold pJ at h
 rw[if_neg h0]at h
 split at h
 ·omega
 ·split at h
  ·omega
  ·split at h
   ·omega
   ·omega
theorem UT{l:List Int}{id:Int}(h:mV l=0)(hid:0<=id/\id<4):mV (kE l id)=0:=by
 unfold kE
 split
 ·exact h
 ·rename_i hn
  obtain⟨h1,h2⟩:=zL.1 h
  refine zL.2 ⟨fun x hx=> ?_,O6 ?_⟩
  ·rcases List.mem_append.1 (LG.1 hx)with h|h
   ·exact h1 x h
   ·obtain rfl:x=id:=by simpa using h
    exact hid
  ·rw[List.nodup_append]
   refine⟨h2.imp (fun{a b} h=>by omega),by simp,fun a ha b hb e=> ?_⟩
   obtain rfl:b=id:=by simpa using hb
   exact hn (rO.2 (e▸ha))
theorem LM{l:List Int}{id x:Int}:x∈kE l id↔x∈l\/x=id:=by
 unfold kE
 split
 ·rename_i h
  constructor
  ·exact .inl
  ·rintro(h1|rfl)
   ·exact h1
   ·exact rO.1 h
 ·rw[LG]
  simp
theorem O8{ep:Int}{l:List Mem}{id:Int}(h:chk ep l=0)(hm:bY l id=true):0<=id/\id<4:=by
 obtain⟨m,hin,rfl⟩:=LH.1 hm
 exact(iT h).2.2.2.id m hin
theorem Inv.apply{s:bQ}{x:aG}(h:Inv s)(hg:0<=x.at'/\0<=x.pin.at'/\0<=x.fl):
  Inv (aZ s x)/\s.hz<=(aZ s x).hz/\s.ep<=(aZ s x).ep/\(bu s x=0->x.k=6->s.pins.length<(aZ s x).pins.length->s.hz<=x.pin.at'):=by
 by_cases h0:bu s x=0
 ·have hn:=mZ h0
  obtain⟨f1,f5,f4,f6,f8⟩:=Yz h0
  have hS:∀s',(if bu s x≠0 then s else s')=s':=fun s'=>by rw[if_neg (by simpa using h0)]
  rcases Aj h0 with hk|hk|hk|hk|hk|hk
  ·obtain⟨g1,g2,g3⟩:=US (f1 hk)
   obtain⟨g4,g5⟩:=IY hn hk
   have e:aZ s x={s with ep:=x.ep,ms:=x.ms,fl:=x.fl,lg:=x.lg}:=by unfold aZ;rw[hS,if_pos hk]
   rw[e]
   refine⟨⟨.inr ⟨g4,g5,g2,g3,hg.2.2⟩,h.hz,h.pl,h.xg,h.pin,h.top,h.a0,h.a1,h.a2⟩,Int.le_refl _,Int.le_of_lt g1,fun _ h6=>by omega⟩
  ·have e:aZ s x={s with lg:=kE s.lg x.n}:=by unfold aZ;rw[hS,if_neg (by omega),if_pos hk]
   have hm:=f5 hk
   rw[e]
   refine⟨⟨?_,h.hz,h.pl,h.xg,h.pin,h.top,h.a0,h.a1,h.a2⟩,Int.le_refl _,Int.le_refl _,fun _ h6=>by omega⟩
   rcases h.conf with⟨_,c1,_⟩|⟨c1,c2,c3,c4,c5⟩
   ·rw[c1]at hm;simp[bY]at hm
   ·refine .inr ⟨c1,UT c2 (O8 c1 hm),fun y hy=> ?_,LM.2 (.inl c4),c5⟩
    rcases LM.1 hy with hy|rfl
    ·exact c3 y hy
    ·exact hm
  ·have e:aZ s x={s with hz:=x.at'}:=by unfold aZ;rw[hS,if_neg (by omega),if_neg (by omega),if_pos hk]
   have:=f4 hk
   rw[e]
   exact⟨⟨h.conf,hg.1,h.pl,h.xg,h.pin,h.top,h.a0,h.a1,h.a2⟩,by show s.hz<=x.at';omega,Int.le_refl _,fun _ h6=>by omega⟩
  ·have e:aZ s x=jW s x.pin:=by unfold aZ;rw[hS,if_neg (by omega),if_neg (by omega),if_neg (by omega),if_pos hk]
   rw[e]
   unfold jW
   split
   ·rename_i hp
    rw[O7 (fun p hp=>(h.pin p hp).2.2.1) hp]
    exact⟨h,Int.le_refl _,Int.le_refl _,fun _ _ hl=>absurd hl (Nat.lt_irrefl _)⟩
   ·rename_i hp
    obtain⟨g1,g2,g3⟩:=YA (f6 hk) hp
    obtain⟨g4,g5⟩:=LK hn hk
    have ht:=h.top
    refine⟨⟨h.conf,h.hz,by simp;omega,?_,?_,⟨g4,g5⟩,h.a0,h.a1,h.a2⟩,Int.le_refl _,Int.le_refl _,fun _ _ _=>g3⟩
    ·rw[List.pairwise_append]
     refine⟨h.xg,by simp,fun a ha b hb=> ?_⟩
     obtain rfl:b=⟨x.pin.id,x.pin.at',8⟩:=by simpa using hb
     have:=(h.pin a ha).2.1
     show a.id<x.pin.id
     omega
    ·intro p hp
     rcases List.mem_append.1 hp with hp|hp
     ·obtain⟨a1,a2,a3,a4⟩:=h.pin p hp
      exact⟨a1,by show p.id<=x.pin.id;omega,a3,a4⟩
     ·obtain rfl:p=⟨x.pin.id,x.pin.at',8⟩:=by simpa using hp
      exact⟨by show 1<=x.pin.id;omega,Int.le_refl _,rfl,hg.2.1⟩
  ·have e:aZ s x={s with pins:=freed s.pins x.n,top:=max s.top x.n}:=by unfold aZ;rw[hS,if_neg (by omega),if_neg (by omega),if_neg (by omega),if_neg (by omega),if_pos hk]
   obtain⟨g1,g2⟩:=adE hn hk
   have hsub:=LJ s.pins x.n
   have ht:=h.top
   rw[e]
   refine⟨⟨h.conf,h.hz,Nat.le_trans hsub.length_le h.pl,h.xg.sublist hsub,fun p hp=> ?_,?_,h.a0,h.a1,h.a2⟩,Int.le_refl _,Int.le_refl _,fun _ h6=>by omega⟩
   ·obtain⟨a1,a2,a3,a4⟩:=h.pin p (hsub.subset hp)
    exact⟨a1,by show p.id<=max s.top x.n;omega,a3,a4⟩
   ·show 0<=max s.top x.n/\max s.top x.n<=1073741824
    omega
  ·have e:aZ s x=kF s x.said:=by unfold aZ;rw[hS,if_neg (by omega),if_neg (by omega),if_neg (by omega),if_neg (by omega),if_neg (by omega)]
   have hs:=IZ hn hk
   rw[e]
   unfold kF
   rcases adF hs with hc|hc|hc
   ·rw[if_pos hc]
    exact⟨⟨h.conf,h.hz,h.pl,h.xg,h.pin,h.top,.inr ⟨hs,hc⟩,h.a1,h.a2⟩,Int.le_refl _,Int.le_refl _,fun _ h6=>by omega⟩
   ·rw[if_neg (by omega),if_pos hc]
    exact⟨⟨h.conf,h.hz,h.pl,h.xg,h.pin,h.top,h.a0,.inr ⟨hs,hc⟩,h.a2⟩,Int.le_refl _,Int.le_refl _,fun _ h6=>by omega⟩
   ·rw[if_neg (by omega),if_neg (by omega)]
    exact⟨⟨h.conf,h.hz,h.pl,h.xg,h.pin,h.top,h.a0,h.a1,.inr ⟨hs,hc⟩⟩,Int.le_refl _,Int.le_refl _,fun _ h6=>by omega⟩
 ·have e:aZ s x=s:=by unfold aZ;rw[if_pos h0]
  rw[e]
  exact⟨h,Int.le_refl _,Int.le_refl _,fun h1=>absurd h1 h0⟩
end Mst
end Go.Proofs.YtfjdpbbgfjhnlaaGreat

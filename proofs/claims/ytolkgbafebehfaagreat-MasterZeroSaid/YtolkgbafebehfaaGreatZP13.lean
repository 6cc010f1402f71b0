/- Part 14 of what the proof needs. -/
import Derived.Test.YtolkgbafebehfaaGreatZP12
set_option linter.unusedSimpArgs false
set_option linter.unusedVariables false
set_option maxHeartbeats 32000000
set_option maxRecDepth 100000
namespace Go.Proofs.YtolkgbafebehfaaGreat
open Go.RowKit
set_option maxRecDepth 100000
def xw(cs:Array Value):Nat->List Value->Array Value
 |_,[]=>cs
 |o,v::r=>xw (cs.setIfInBounds o v) (o+1) r
theorem yV:∀(vs:List Value) (cs:Array Value) (o:Nat),(xw cs o vs).size=cs.size
 |[],_,_=>rfl
 |v::r,cs,o=>by rw[xw,yV r];simp
theorem yX:∀(vs:List Value) (cs:Array Value) (o:Nat),o+vs.length<=cs.size->(xw cs o vs).toList=cs.toList.take o++vs++cs.toList.drop (o+vs.length)
 |[],cs,o,_=>by simp[xw]
 |v::r,cs,o,h=>by
  simp only[List.length_cons]at h
  have ho:o<cs.toList.length:=by simp;omega
  rw[xw,yX r _ _ (by simp;omega),Array.toList_setIfInBounds,List.take_set,List.take_add_one,List.getElem?_eq_getElem ho,List.drop_set,if_pos (by omega)]
  simp only[Option.toList_some,List.length_cons,List.append_assoc]
  have e1:(cs.toList.take o++[cs.toList[o]]).set o v=cs.toList.take o++[v]:=by
   rw[List.set_append_right _ _ (by simp;omega)]
   have:o-(cs.toList.take o).length=0:=by simp;omega
   rw[this];rfl
  rw[e1]
  simp only[List.append_assoc,List.singleton_append,List.cons_append,List.nil_append]
  rw[show o+1+r.length=o+(r.length+1) by omega]
theorem Has.qO{b:Nat}{t:TypeId}:∀(vs:List Value) (o:Nat) (w:World) (cs:Array Value),Has w b t cs->Has (w.setCells b o vs) b t (xw cs o vs)
 |[],_,_,_,h=>h
 |v::r,o,_,_,h=>Has.qO r (o+1) _ _ (h.put o v)
theorem Kept.qO{b:Nat}:∀(vs:List Value) (o:Nat) (w:World),Kept (fun k=>k=b) w (w.setCells b o vs)
 |[],_,w=>Kept.refl _ _
 |v::r,o,w=>Kept.then (F:=fun k=>k=b) ((Kept.refl _ w).put (g:=b) (i:=o) (u:=v) (.inl rfl)) (Kept.qO r (o+1) _)
theorem Fh{P:Program}{w:World}{size g off n c:Nat}{cur:Array Value}{t e:TypeId}{z:Value}(h:Has w g e cur)(ht:P.underlying t=some (.slice e))
  (hv:∀w,(zeroValue e).run P w=.ok z w) (hz:z.cells.size=size) (h0:0<size) (h1:∀u∈z.cells,u.oneCell'=true) (hn:0<n) (hsz:off+n*size<=cur.size) (ty:TypeId):
  (Builtin.clear_ #[t] ty #[.slice (some ⟨g,off,none⟩) n c]).run P w=.ok (.tuple #[]) (w.setCells g off (Builtin.zeroCells z.cells n).toList):=by
 have hlen:(Builtin.zeroCells z.cells n).toList.length=n*size:=by simp[Builtin.zeroCells,hz]
 have hone:∀u∈(Builtin.zeroCells z.cells n).toList,u.oneCell'=true:=by
  intro u hu
  simp only[Builtin.zeroCells,Array.toList_map,List.mem_map]at hu
  obtain⟨i,_,rfl⟩:=hu
  have hlt:i%z.cells.size<z.cells.size:=Nat.mod_lt _ (by omega)
  rw[getElem!_pos z.cells _ hlt]
  exact h1 _ (Array.getElem_mem hlt)
 have hst:=run_storeCells_cells (P:=P) g off (Builtin.zeroCells z.cells n).toList 0 w
  (by intro j hj;rw[hlen]at hj;rw[h.cell,Array.getElem?_eq_getElem (by omega)];rfl)
  (by intro j hj;exact h.frozen _) hone
 obtain⟨m,rfl⟩:∃m,n=m+1:=⟨n-1,by omega⟩
 simp only[Nat.add_zero]at hst
 simp[Builtin.clear_,run_underlying ht,hv,hst]
namespace Mst
open aP Vn
theorem L6(l:List aZ)(k:Nat):aK (l.drop k)=(aK l).drop (k*3):=by
 induction l generalizing k with
 |nil=>simp[aK]
 |cons a l ih=>
  cases k with
  |zero=>simp
  |succ k=>
   have e:(k+1)*3=k*3+3:=by omega
   rw[e]
   simpa [aK,oK]using ih k
theorem Mc(l:List aZ)(k:Nat):aK (l.take k)=(aK l).take (k*3):=by
 induction l generalizing k with
 |nil=>simp[aK]
 |cons a l ih=>
  cases k with
  |zero=>simp[aK]
  |succ k=>
   have e:(k+1)*3=k*3+3:=by omega
   rw[e]
   simpa [aK,oK]using ih k
theorem qH(a b:List aZ):aK (a++b)=aK a++aK b:=by simp[aK]
theorem oz(l:List aZ):(aK l).length=l.length*3:=by
 induction l with
 |nil=>rfl
 |cons a l ih=>simp only[aK,List.flatMap_cons,List.length_append,List.length_cons]at ih⊢;rw[ih];simp[oK];omega
theorem OP(w:World)(g c k j:Nat)(hj:j=k+1)(l:List aZ)(hl:w.ownsRow 0 79 3 (.slice (some ⟨g,0,none⟩) l.length c) l.length (aK l))(hk:k<l.length)(hlen:l.length<=1000000):
  Calls Tryz.prog 234 #[.slice (some ⟨g,0,none⟩) l.length c,.int .i64 k,.int .i64 j] w fun e w'=>
   e=.returned (.slice (some ⟨g,0,none⟩) (l.length-1) c)/\w'.ownsRow 0 79 3 (.slice (some ⟨g,0,none⟩) (l.length-1) c) (l.length-1) (aK (l.eraseIdx k))/\Kept (fun j=>j=g) w w':=by
 obtain⟨i0,hi,hz0,hz1,hz2⟩:=info_parts (show(Tryz.prog.info? 79).map (fun i=>(i.zero,i.size,i.bytes))=some (some (.agg #[.int .i64 0,.int .u64 0,.int .i64 0]),3,24) by kernel_rfl)
 have mixed:Tryz.prog.follows .mixedOrders=true:=by kernel_rfl
 rcases hl.2 with⟨hv,_⟩|⟨g',cap,cur,hv,hb,hh,hn,hm,hs,htk⟩
 ·cases hv
 injection hv with h1 h2 h3
 injection h1 with h1
 injection h1 with h1
 subst h1
 subst h3
 clear h2
 have hcap:=hm
 unfold maxLen at hcap
 have hH:Has w g 79 cur:=hh
 clear hh
 --the cells that are moved to the left
 obtain⟨news,hnews⟩:∃news,news=aK (l.drop j):=⟨_,rfl⟩
 have Ec:news.length=(l.length-j)*3:=by rw[hnews,oz];simp
 have hget:∀t u,news[t]? =some u->cur[j*3+t]? =some u:=by
  intro t u hu
  have ht:=(List.getElem?_eq_some_iff.1 hu).1
  rw[hnews,L6,List.getElem?_drop,<-htk,List.getElem?_take,if_pos (by omega),Array.getElem?_toList]at hu
  exact hu
 obtain⟨A,hA,hsrc⟩:∃A:Addr,(if c=j then (some (⟨g,0,none⟩:Addr))else some ⟨g,j*3,none⟩)=some A/\Hid (∀t u,news[t]? =some u->w.drew.cell? (A.add t)=some u):=by
  by_cases h:c=j
  ·refine⟨⟨g,0,none⟩,by simp[h],fun t u hu=> ?_⟩
   have h0:news.length=0:=by rw[Ec];omega
   rw[List.length_eq_zero_iff.1 h0]at hu
   simp at hu
  ·refine⟨⟨g,j*3,none⟩,by simp[h],fun t u hu=> ?_⟩
   rw[Addr.add_lit]
   exact(hH.drew.cell _).trans (hget t u hu)
 have s1:Hid (news.length=(l.length-j)*3):=Ec
 have s2:Hid (∀u∈news,u.oneCell'=true):=by rw[hnews];exact Ea _
 have s3:Hid (∀t,t<news.length->(w.drew.cell? ⟨g,0+k*3+t,none⟩).isSome=true/\w.drew.frozen? ⟨g,0+k*3+t,none⟩=false):=by
  intro t ht
  rw[Ec]at ht
  refine⟨?_,hH.drew.frozen _⟩
  rw[hH.drew.cell,Array.getElem?_eq_getElem (by omega)];rfl
 obtain⟨W1,hW1⟩:∃W1,W1=w.drew.setCells g (0+k*3) news:=⟨_,rfl⟩
 have hH1:Has W1 g 79 (xw cur (0+k*3) news):=by rw[hW1];exact Has.qO _ _ _ _ hH.drew
 have hk1:Kept (fun j=>j=g) w W1:=by rw[hW1];exact Kept.then (F:=fun j=>j=g) ((Kept.refl _ w).drew) (Kept.qO _ _ _)
 have hsz1:=yV news cur (0+k*3)
 have hcl:∀ty,(Builtin.clear_ #[58] ty #[.slice (some ⟨g,(l.length-1)*3,none⟩) 1 (c-(l.length-1))]).run Tryz.prog W1=.ok (.tuple #[]) (W1.setCells g ((l.length-1)*3) (Builtin.zeroCells (Value.agg #[.int .i64 0,.int .u64 0,.int .i64 0]).cells 1).toList):=
  fun ty=>Fh (size:=3) hH1 Tryz.underlying58 (by intro w;kernel_rfl) rfl (by decide) (by intro u hu;simp[Value.cells]at hu;rcases hu with rfl|rfl|rfl<;>rfl) (by decide) (by rw[hsz1,hs];omega) ty
 have hfin:(W1.setCells g ((l.length-1)*3) (Builtin.zeroCells (Value.agg #[.int .i64 0,.int .u64 0,.int .i64 0]).cells 1).toList).ownsRow 0 79 3 (.slice (some ⟨g,0,none⟩) (l.length-1) c) (l.length-1) (aK (l.eraseIdx k)):=by
  have hH2:=Has.qO (Builtin.zeroCells (Value.agg #[.int .i64 0,.int .u64 0,.int .i64 0]).cells 1).toList ((l.length-1)*3) _ _ hH1
  have hz3:(Builtin.zeroCells (Value.agg #[.int .i64 0,.int .u64 0,.int .i64 0]).cells 1).toList.length=3:=by kernel_rfl
  refine⟨by rw[oz,List.length_eraseIdx_of_lt hk],.inr ⟨g,c,_,rfl,Nat.zero_le _,hH2,by omega,hm,by rw[yV,hsz1,hs],?_⟩⟩
  rw[yX _ _ _ (by rw[hsz1,hz3,hs];omega),List.append_assoc,List.take_append_of_le_length (by have hz:=hsz1;rw[<-Array.length_toList]at hz;rw[List.length_take,hz,hs];omega),List.take_of_length_le (by rw[List.length_take];omega),yX _ _ _ (by rw[Ec];omega)]
  have e1:cur.toList.take (0+k*3)=aK (l.take k):=by
   rw[Mc,<-htk,List.take_take]
   congr 1
   omega
  rw[e1,hnews,List.take_append_of_le_length (by simp[oz];omega),List.take_of_length_le (by simp[oz];omega),<-qH,List.eraseIdx_eq_take_drop_succ,hj]
 have iM:Kept (fun j=>j=g) w (W1.setCells g ((l.length-1)*3) (Builtin.zeroCells (Value.agg #[.int .i64 0,.int .u64 0,.int .i64 0]).cells 1).toList):=hk1.then (Kept.qO _ _ _)
 have bI:=ah (And.intro hfin iM)
 obtain⟨W2,hW2⟩:∃W2,W2=W1.setCells g ((l.length-1)*3) (Builtin.zeroCells (Value.agg #[.int .i64 0,.int .u64 0,.int .i64 0]).cells 1).toList:=⟨_,rfl⟩
 rw[<-hW2]at hcl bI
 have hW:Hid (W1=w.drew.setCells g (0+k*3) news):=hW1
 have hic:k<=c:=by omega
 have hjc:j<=c:=by omega
 have hne:¬((k:Int)=(j:Int)):=by omega
 have hkk:(j:Int)<=(l.length:Int):=by omega
 have hnk:k+(l.length-j)=l.length-1:=by omega
 have hll:l.length-(l.length-1)=1:=by omega
 have hn1:((l.length-1:Nat):Int)<=(l.length:Int):=by omega
 have hnc:l.length<=c:=hn
 have hkj:(k:Int)<=(j:Int):=by omega
 have hjl:j<=l.length:=by omega
 clear hj hk
 clear hfin iM hW2 hW1 hH1 hk1 hsz1 hH hget hnews Ec hs htk hm hl hb
 go_enter Tryz.func234,Tryz.ntmps234
 go_wp2_with fail
 go_region_law_o (refine step_append_room rfl (.tmp 22) (.tmp 25) 58 rfl 79 i0 3 Tryz.underlying58 hi hz1 g 0 k c (by simp[Act.eval,Act.put]) A (l.length-j) (c-j) news (by simp[Act.eval,Act.put,hA]) s1.out hsrc.out s2.out (by omega) s3.out ?_;rw[<-hW.out,hnk])
 go_wp2
 go_ret
 exact⟨rfl,bI.out⟩
end Mst
namespace Mst
open aP Vn
def freed(l:List aZ)(id:Int):List aZ:=if fG l id<0 then l else l.eraseIdx (fG l id).toNat
def Dv(w:World)(l:List aZ)(id:Int)(e:Ending)(w':World):Prop:=
 (fG l id<0/\e=.returned (.tuple #[.slice none 0 0,.int .i64 7])/\Kept aj w w')\/
 (0<=fG l id/\∃A c,e=.returned (.tuple #[.slice A (freed l id).length c,.int .i64 0])/\aF 79 3 w.heap.size w' A (freed l id).length c (aK (freed l id))/\Kept aj w w')
theorem Dw(w:World)(A:Option Addr)(c:Nat)(l:List aZ)(id:Int)(hl:Src w 3 A l.length (aK l))(hlen:l.length<=1000000):
  Calls Tryz.prog 136 #[.slice A l.length c,.int .i64 id] w (Dv w l id):=by
 have hf:=fun W (hW:Kept aj w W) (b:Nat) (hb:Has W b 3 #[.int .i64 id])=>Jd W A c l b id hb (hl.kept hW (fun _ _ z=>z)) hlen
 have hwh:=Gg w id
 rcases tC l id with h1|⟨k,x,h1,hx,hid⟩
 ·rw[h1]at hf
  have hP:∀w',Kept aj w w'->Dv w l id (.returned (.tuple #[.slice none 0 0,.int .i64 7])) w':=fun w' hk=> .inl ⟨by omega,rfl,hk⟩
  have HF:=ah hf;have HP:=ah hP;have Aq:=ah hwh
  clear hf hP hwh hl h1
  go_enter Tryz.func136,Tryz.ntmps136
  go_wp2_with fail
  refine Aq.out.mono ?_
  rintro e w1 ⟨rfl,rfl⟩
  go_wp2_with fail
  refine(HF.out _ (by(repeat'(first|(with_reducible first|exact ak|apply au|apply ay|apply aA|apply aB)|(right;simp;done)))) w.heap.size (Has.new w 3 #[.int .i64 id])).mono ?_
  rintro e w2 ⟨rfl,hk⟩
  have hk2:=Kept.then (F:=aj) (a:=w) (by(repeat'(first|(with_reducible first|exact ak|apply au|apply ay|apply aA|apply aB)|(right;simp;done)))) hk
  have HK:=ah hk2;clear hk hk2
  go_wp2
  go_ret2
  exact HP.out _ HK.out
 ·rw[h1]at hf
  have hkl:k<l.length:=(List.getElem?_eq_some_iff.1 hx).1
  have hcl:=fun W (hW:Kept aj w W)=>rG W A c l (hl.kept hW (fun _ _ z=>z)) hlen
  have hP:∀w' A c,aF 79 3 w.heap.size w' A (l.length-1) c (aK (l.eraseIdx k))->Kept aj w w'->Dv w l id (.returned (.tuple #[.slice A ((l.length-1:Nat)) c,.int .i64 0])) w':=fun w' A c hn hk=>by
   have e1:freed l id=l.eraseIdx k:=by unfold freed;rw[h1,Int.toNat_natCast,if_neg (by omega)]
   have e2:(freed l id).length=l.length-1:=by rw[e1,List.length_eraseIdx_of_lt hkl]
   refine .inr ⟨by omega,A,c,?_,?_,hk⟩
   ·rw[e2]
   ·rw[e2,e1];exact hn
  have hj:∀W g c,_->_:=fun W g c h=>OP W g c k (k+1) rfl l h hkl hlen
  have hcast:((k+1:Nat):Int)=(k:Int)+1:=by omega
  rw[hcast]at hj
  have hw1:IntKind.i64.wrap ((k:Int)+1)=(k:Int)+1:=IntWalk.i64_in _ (by omega)
  have HF:=ah hf;have HP:=ah hP;have Aq:=ah hwh;have HC:=ah hcl;have HJ:=ah hj
  clear hf hP hwh hl h1 hcl hx hid hj hcast
  have b0:(0:Int)<=(k:Int):=by omega
  go_enter Tryz.func136,Tryz.ntmps136
  go_wp2_with fail
  refine Aq.out.mono ?_
  rintro e w1 ⟨rfl,rfl⟩
  go_wp2_with fail
  refine(HF.out _ (by(repeat'(first|(with_reducible first|exact ak|apply au|apply ay|apply aA|apply aB)|(right;simp;done)))) w.heap.size (Has.new w 3 #[.int .i64 id])).mono ?_
  rintro e w2 ⟨rfl,hk⟩
  have hk2:=Kept.then (F:=aj) (a:=w) (by(repeat'(first|(with_reducible first|exact ak|apply au|apply ay|apply aA|apply aB)|(right;simp;done)))) hk
  have HK:=ah hk2;clear hk hk2
  go_wp2_with fail
  refine(HC.out _ HK.out).mono ?_
  rintro e w3 ⟨A1,c1,rfl,hn,hk⟩
  have bf:=ah (And.intro (HK.out.then hk) HK.out.size);clear HK hk
  obtain⟨rb,cap,hv,_,hrl⟩:=hn.1.form (by omega)
  injection hv with hA _ hC
  subst hA
  subst hC
  have HN:=ah hn;clear hn
  go_wp2_with fail
  refine(HJ.out _ _ _ HN.out.1).mono ?_
  rintro e w4 ⟨rfl,ho,hk⟩
  have HO:=ah (And.intro ho hk);clear ho hk
  have hrb:w.heap.size<=rb:=by have h1:=HN.out.2 rb rfl;have h2:=bf.out.2;omega
  go_wp2
  go_ret2
  exact HP.out _ _ _ ⟨HO.out.1,fun g hg=>by obtain rfl:rb=g:=by simpa [Value.ownBlock]using hg
                                            exact hrb⟩ (bf.out.1.trans HO.out.2 (fun i hi=> .inr (by subst hi;exact hrb)))
end Mst
namespace Mst
open aP Vn
def lV:List Mem->Int
 |[]=> -1
 |m::_=>m.1
theorem Ar(w:World)(ep fl:Int)(A:Option Addr)(c:Nat)(l:List Mem)(hl:Src w 2 A l.length (aS l))(hlen:l.length<=1000000):
  Calls Tryz.prog 145 #[mP ep A l.length c fl] w fun e w'=>e=.returned (.int .i64 (lV l))/\Kept aj w w':=by
 cases l with
 |nil=>
  clear hl
  simp only[List.length_nil]
  go_enter Tryz.func145,Tryz.ntmps145
  go_wp2
  go_ret
  exact⟨rfl,by(repeat'(first|(with_reducible first|exact ak|apply au|apply ay|apply aA|apply aB)|(right;simp;done)))⟩
 |cons m r=>
  obtain⟨ad,rfl,had,d0,d1⟩:=ig hl (by simp) 0 m rfl
  have d0':w.cell? ad=some (.int .i64 m.1):=d0
  have aay:∀o,(w.alloc o).cell? ad=some (.int .i64 m.1):=fun o=>by rw[World.cell?_of_block (w:=w) (((Kept.refl aj w).alloc o).block _ had (fun x=>x))];exact d0'
  have e0:=aay (.cells #[.int .i64 ep,.slice (some ad) (m::r).length c,.int .u64 fl] 25)
  have hpos:0<(m::r).length:=by simp
  have HH:=ah (rfl:lV (m::r)=m.1)
  generalize(m::r).length=N at*
  rw[HH.out]
  have hp1:¬(N:Int)=0:=by omega
  have hp2:¬(N:Int)<=0:=by omega
  clear d0 d1 d0' aay hl had HH
  have hadd:ad.add 0=ad:=by unfold Addr.add;rw[if_pos rfl]
  go_enter Tryz.func145,Tryz.ntmps145
  go_wp2
  go_ret
  exact⟨rfl,by(repeat'(first|(with_reducible first|exact ak|apply au|apply ay|apply aA|apply aB)|(right;simp;done)))⟩
theorem yY(w:World)(A:Option Addr)(c:Nat)(l:List Int)(x:Int)(hl:Src w 1 A l.length (ints l))(hlen:l.length<=1000000):
  Calls Tryz.prog 246 #[.slice A l.length c,.int .i64 x] w fun e w'=>e=.returned (.int .i64 (iq (fun y=>decide (y=x)) l 0))/\Kept aj w w':=by
 have HL:=ah hl;clear hl
 obtain⟨r,hr⟩:∃r,iq (fun y=>decide (y=x)) l 0=r:=⟨_,rfl⟩
 rw[hr]
 have HR:=ah hr;clear hr
 go_enter Tryz.func246,Tryz.ntmps246
 go_wp2_with fail
 go_loop [5,8] (fun v5 v8=>∃i:Nat,i<=l.length/\v8=.int .i64 i/\r=iq (fun y=>decide (y=x)) (l.drop i) i) (fun _ v8=>l.length-(intOf v8).toNat)
 case atStart=>exact⟨0,Nat.zero_le _,rfl,HR.out.symm⟩
 case round=>
  obtain⟨i,hi,rfl,hrr⟩:=hrel
  by_cases hil:i<l.length
  ·obtain⟨y,hy⟩:∃y,l[i]? =some y:=⟨_,List.getElem?_eq_getElem hil⟩
   have hsa:=BQ (fun y=>decide (y=x)) hy
   obtain⟨ad,rfl,hl1,x0⟩:=o7 HL.out (by omega) i y hy
   rw[hsa]at hrr
   clear hsa hy
   by_cases hyx:y=x
   ·subst hyx
    rw[if_pos (by simp)]at hrr
    have HRR:=ah hrr;clear hrr
    go_wp2
    go_ret
    exact⟨by rw[HRR.out];rfl,Kept.refl _ _⟩
   ·rw[if_neg (by simpa using hyx)]at hrr
    have HRR:=ah hrr;clear hrr
    have hxy:¬x=y:=fun h=>hyx h.symm
    go_wp2
    go_round
    case rel=>exact⟨i+1,by omega,by go_num,HRR.out⟩
    case measure=>simp[intOf];omega
  ·obtain rfl:i=l.length:=by omega
   rw[List.drop_length,iq]at hrr
   have HRR:=ah hrr;clear hrr
   go_wp2
   go_ret
   exact⟨by rw[HRR.out];rfl,Kept.refl _ _⟩
theorem Zp(l:List Int)(x:Int):(l.any fun y=>decide (y=x))=inB l x:=by
 unfold inB
 induction l with
 |nil=>rfl
 |cons a l ih=>
  have e:(x==a)=decide (a=x):=by rw[Bool.eq_iff_iff,beq_iff_eq,decide_eq_true_iff];exact eq_comm
  rw[List.any_cons,List.contains_cons,ih,e]
theorem kV(w:World)(A:Option Addr)(c:Nat)(l:List Int)(x:Int)(hl:Src w 1 A l.length (ints l))(hlen:l.length<=1000000):
  Calls Tryz.prog 142 #[.slice A l.length c,.int .i64 x] w fun e w'=>e=.returned (.bool (inB l x))/\Kept aj w w':=by
 have hi:=yY w A c l x hl hlen
 have ha:=yT (fun y=>decide (y=x)) l 0
 rw[Zp]at ha
 obtain⟨k,hk⟩:∃k,iq (fun y=>decide (y=x)) l 0=k:=⟨_,rfl⟩
 rw[hk]at hi ha
 rw[<-ha]
 have HI:=ah hi;clear hi hk hl ha
 go_enter Tryz.func142,Tryz.ntmps142
 go_wp2_with fail
 refine HI.out.mono ?_
 rintro e w2 ⟨rfl,hk⟩
 have HK:=ah hk;clear hk
 go_wp2
 go_ret
 exact⟨by simp,HK.out⟩
theorem Rq(w:World)(x:aN)(b:Nat)(id:Int)(hb:Has w b 100 (aH x).toArray)(h:gU w x):
  Calls Tryz.prog 228 #[.int .i64 id,.pointer (some ⟨b,0,none⟩)] w fun e w'=>e=.returned (.bool (!dZ x.ms id))/\Kept aj w w':=by
 have hm:=fun W (hW:Kept aj w W)=>pR W x.ep x.fl x.mA x.mc x.ms id (h.kept hW).m (by have:=h.ml;omega)
 obtain⟨r,hr⟩:∃r,dZ x.ms id=r:=⟨_,rfl⟩
 rw[hr]at hm⊢
 clear hr h
 obtain⟨k,n,at2,ep,mA,mc,ms,fl,lA,lc,lg,oA,oc,⟨gZ,eG,ops⟩,ts,⟨p1,p2,p3⟩,⟨s1,s2,s3,s4⟩⟩:=x
 have c3:=hb.cell 3
 have c4:=hb.cell 4
 have c5:=hb.cell 5
 simp only[aH,List.getElem?_toArray,List.getElem?_cons_zero,List.getElem?_cons_succ]at c3 c4 c5 hm
 have HM:=ah hm;clear hm hb
 go_enter Tryz.func228,Tryz.ntmps228
 go_wp2_with fail
 refine(HM.out _ (by(repeat'(first|(with_reducible first|exact ak|apply au|apply ay|apply aA|apply aB)|(right;simp;done))))).mono ?_
 rintro e w2 ⟨rfl,hk⟩
 have HK:=ah hk;clear hk
 go_wp2
 go_ret
 exact⟨rfl,HK.out⟩
end Mst
end Go.Proofs.YtolkgbafebehfaaGreat

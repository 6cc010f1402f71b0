/- Part 41 of what the proof needs. -/
import Derived.Test.YtfjdpbbgfjhnlaaGreatMK39
set_option linter.unusedSimpArgs false
set_option linter.unusedVariables false
set_option maxHeartbeats 32000000
set_option maxRecDepth 100000
namespace Go.Proofs.YtfjdpbbgfjhnlaaGreat
open Go.RowKit
set_option maxRecDepth 100000
namespace DL
open aO Ops xE gZ Vn Mst mP
structure RB(w:World)(s:ByteArray)(g x y:Nat)(T:TypeId)(r:RS)(xs ys:Array Value)(W:World):Prop where
 rd:kS W g s r
 x:Has W x T xs
 y:Has W y T ys
 k:Kept aj w W
structure Od(w:World)(g x y:Nat):Prop where
 wg:w.heap.size<=g
 wx:w.heap.size<=x
 wy:w.heap.size<=y
 gx:g≠x
 gy:g≠y
 xy:x≠y
section
variable{w W W':World}{s:ByteArray}{g x y:Nat}{T:TypeId}{r r':RS}{xs ys:Array Value}{v:Value}{e:Ending}
theorem RB.read(o:Od w g x y)(h:RB w s g x y T r xs ys W)(hr:Jw W g s v r' e W'):e=.returned v/\RB w s g x y T r' xs ys W'/\Kept (fun k=>k=g) W W':=by
 obtain⟨he,g1,g2⟩:=hr
 exact⟨he,⟨g1,h.x.kept g2 (fun e=>o.gx e.symm),h.y.kept g2 (fun e=>o.gy e.symm),h.k.trans g2 fun i hi=>by rw[hi];exact .inr o.wg⟩,g2⟩
theorem RB.keep(h:RB w s g x y T r xs ys W)(hk:Kept aj W W'):RB w s g x y T r xs ys W':=⟨h.rd.kept hk (fun z=>z),h.x.kept hk (fun z=>z),h.y.kept hk (fun z=>z),h.k.then hk⟩
theorem RB.off{G:Nat->Prop}(h:RB w s g x y T r xs ys W)(hk:Kept G W W')(hg:¬G g)(hx:¬G x)(hy:¬G y)(hw:∀k,G k->w.heap.size<=k):RB w s g x y T r xs ys W':=
 ⟨h.rd.kept hk hg,h.x.kept hk hx,h.y.kept hk hy,h.k.trans hk fun i hi=> .inr (hw i hi)⟩
theorem RB.put(o:Od w g x y)(h:RB w s g x y T r xs ys W)(i:Nat)(u:Value):RB w s g x y T r (xs.setIfInBounds i u) ys (W.setCell ⟨x,i,none⟩ u):=by
 have hk:Kept (fun k=>k=x) W (W.setCell ⟨x,i,none⟩ u):=(Kept.refl _ W).put (.inl rfl)
 exact⟨h.rd.kept hk o.gx,h.x.put i u,h.y.kept hk (fun e=>o.xy e.symm),h.k.trans hk fun i hi=>by rw[hi];exact .inr o.wx⟩
theorem RB.uV(o:Od w g x y)(h:RB w s g x y T r xs ys W)(i:Nat)(u:Value){zs:Array Value}(hz:xs.setIfInBounds i u=zs):RB w s g x y T r zs ys (W.setCell ⟨x,i,none⟩ u):=hz▸h.put o i u
end
theorem zV{fn:Func}{p u:Tmp}{ty:TypeId}(h:fn.results=#[.cell p ty,.tmp u])(tmps:Array Value)(W:World)(g:Nat)(v:Value)(hp:tmps.getD p undef=.pointer (some ⟨g,0,none⟩))(hl:(loadVar ty ⟨g,0,none⟩).run Tryz.prog W=.ok v W):
  (results fn tmps).run Tryz.prog W=.ok (.tuple #[v,tmps.getD u undef]) W:=by
 have hp':tmps[p]?.getD undef=.pointer (some ⟨g,0,none⟩):=by simpa using hp
 simp[results,h,hp',asAddr,hl]
theorem ZK{W:World}{g:Nat}{ep fl:Int}{A:Option Addr}{n c:Nat}(h:Has W g 25 #[.int .i64 ep,.slice A n c,.int .u64 fl]):(loadVar 25 ⟨g,0,none⟩).run Tryz.prog W=.ok (lq ep A n c fl) W:=
 run_loadVar_row W g _ _ _ (0,0) _ h Tryz.underlying25 rfl (by kernel_rfl)
structure CP(s:ByteArray)(ep:Int)(ms:List Mem)(fl:Int):Prop where
 e:kL s 1073741824 (0,0)=(ep.toNat,((put ep.toNat).length,0))
 n:kL s 4 ((put ep.toNat).length,0)=(ms.length,((put ep.toNat).length+(put ms.length).length,0))
 m:∀i m,ms[i]? =some m->∃q,kL s 3 ((put ep.toNat).length+(put ms.length).length+((ms.take i).flatMap fun m=>put m.1.toNat++put m.2.toNat).length,0)=(m.1.toNat,q)/\
  kL s 1073741824 q=(m.2.toNat,((put ep.toNat).length+(put ms.length).length+((ms.take (i+1)).flatMap fun m=>put m.1.toNat++put m.2.toNat).length,0))
 f:∃q,iW s ((put ep.toNat).length+(put ms.length).length+(ms.flatMap fun m=>put m.1.toNat++put m.2.toNat).length,0)=(fl.toNat,q)/\Ho s q=0
theorem agE{s:ByteArray}{ep:Int}{ms:List Mem}{fl:Int}(hs:bl s=JE ep ms fl)(hc:aO.chk ep ms=0)(hf:0<=fl/\fl<=aT):CP s ep ms fl:=by
 obtain⟨h1,_,h2,h3⟩:=iT hc
 have hR:Ops.Rest s 0 (put ep.toNat++(put ms.length++((ms.flatMap fun m=>put m.1.toNat++put m.2.toNat)++put fl.toNat))):=⟨[],by rw[hs];unfold JE;simp[List.append_assoc],rfl⟩
 have hR1:=hR.step
 have hR2:=hR1.step
 rw[Nat.zero_add]at hR1 hR2
 have hRi:∀i,Ops.Rest s ((put ep.toNat).length+(put ms.length).length+((ms.take i).flatMap fun m=>put m.1.toNat++put m.2.toNat).length) (((ms.drop i).flatMap fun m=>put m.1.toNat++put m.2.toNat)++put fl.toNat):=fun i=>by
  have h:=hR2
  have e:(ms.flatMap fun m=>put m.1.toNat++put m.2.toNat)=((ms.take i).flatMap fun m=>put m.1.toNat++put m.2.toNat)++((ms.drop i).flatMap fun m=>put m.1.toNat++put m.2.toNat):=by rw[<-List.flatMap_append,List.take_append_drop]
  rw[e,List.append_assoc]at h
  exact h.step
 refine⟨?_,kM hR1 (by omega) (by decide),fun i m hm=> ?_,?_⟩
 ·have:=kM hR (n:=ep.toNat) (most:=1073741824) (by omega) (by decide)
  rwa[Nat.zero_add]at this
 ·have hmm:=List.mem_of_getElem? hm
  have b1:=h3.id m hmm
  have b2:=h3.aU m hmm
  have hd:ms.drop i=m::ms.drop (i+1):=aO.drop_cons hm
  have h4:=hRi i
  rw[hd,List.flatMap_cons,List.append_assoc,List.append_assoc]at h4
  refine⟨_,kM h4 (by omega) (by decide),?_⟩
  have h5:=h4.step
  have h6:=kM h5 (n:=m.2.toNat) (most:=1073741824) (by omega) (by decide)
  rw[h6]
  have e:((ms.take (i+1)).flatMap fun m=>put m.1.toNat++put m.2.toNat).length=((ms.take i).flatMap fun m=>put m.1.toNat++put m.2.toNat).length+(put m.1.toNat).length+(put m.2.toNat).length:=by
   rw[List.take_add_one,hm,Option.toList_some,List.flatMap_append,List.length_append]
   simp
   omega
  rw[e]
  congr 2
  omega
 ·have h4:=hRi ms.length
  rw[List.take_length,List.drop_length,List.flatMap_nil,List.nil_append]at h4
  have h5:Ops.Rest s ((put ep.toNat).length+(put ms.length).length+(ms.flatMap fun m=>put m.1.toNat++put m.2.toNat).length) (put fl.toNat++[]):=by rw[List.append_nil];exact h4
  refine⟨_,BA h5 (by unfold aT at hf;omega),?_⟩
  have h6:=h4.le
  unfold Ho
  rw[if_neg (by simp),if_neg (by dsimp only;omega)]
theorem adZ(w:World)(ep fl:Int)(ms:List Mem)(hc:aO.chk ep ms=0)(hf:0<=fl/\fl<=aT):
  Calls Tryz.prog 143 #[.string (ku ep ms fl)] w fun e w'=>∃A c,e=.returned (.tuple #[lq ep A ms.length c fl,.int .i64 0])/\aF 65 2 w.heap.size w' A ms.length c (aP ms)/\Kept aj w w':=by
 obtain⟨h1,_,h2,h3⟩:=iT hc
 obtain⟨s,hs⟩:∃s,ku ep ms fl=s:=⟨_,rfl⟩
 have hbl:bl s=JE ep ms fl:=by rw[<-hs];unfold ku;rw[if_pos hc,jd]
 have hsl:s.size<=maxLen:=by have:=tN (ep:=ep) (ms:=ms) hf;rw[hs]at this;unfold maxLen;omega
 have hcp:=agE hbl hc hf
 obtain⟨n,hn⟩:∃n,ms.length=n:=⟨_,rfl⟩
 have hcn:=hcp.n
 rw[hn]at hcn
 rw[hs,hn]
 have afI:((ep.toNat:Nat):Int)=ep:=by omega
 have afJ:((fl.toNat:Nat):Int)=fl:=by omega
 have HCP:=ah hcp;have HCN:=ah hcn;have HN:=ah hn;have HE:=ah (And.intro afI afJ);have HC:=ah hc;have HS:=ah hsl;have HM:=ah h3
 have hn4:n<=4:=by omega
 clear hbl hsl hcp hcn afI afJ hc hs h1 h2 h3 hf
 go_enter Tryz.func143,Tryz.ntmps143
 go_wp2_with fail
 refine(open_any _ _).mono ?_
 rintro e w2 ⟨rfl,hr0,hk0⟩
 have hy0:=(Has.new w 25 #[.int .i64 0,.slice none 0 0,.int .u64 0]).kept hk0 (fun z=>z)
 have Qe:=((Kept.refl aj w).alloc (.cells #[.int .i64 0,.slice none 0 0,.int .u64 0] 25)).then hk0
 rw[size_alloc]at hr0⊢
 have HA:=ah (And.intro hr0 (And.intro hy0 Qe));clear hr0 hy0 Qe hk0
 go_wp2_with fail
 refine(kN w2 _ s (0,0) 1073741824 HA.out.1 HS.out (by decide)).mono ?_
 rintro e w3 ⟨rfl,hr,hk⟩
 rw[HCP.out.e]at hr⊢
 dsimp only at hr⊢
 rw[HE.out.1]
 have hg2:=HA.out.1.1.lt
 have hsz2:=hk.size
 have ho:Od w (w.heap.size+1) w3.heap.size w.heap.size:=⟨by omega,by omega,by omega,by omega,by omega,by omega⟩
 obtain⟨p1,hp1⟩:∃p1,(put ep.toNat).length=p1:=⟨_,rfl⟩
 rw[hp1]at hr
 have hst:RB w s (w.heap.size+1) w3.heap.size w.heap.size 25 (p1,0) #[.int .i64 ep,.slice none 0 0,.int .u64 0] #[.int .i64 0,.slice none 0 0,.int .u64 0] (w3.alloc (.cells #[.int .i64 ep,.slice none 0 0,.int .u64 0] 25)):=
  ⟨hr.alloc _,Has.new _ _ _,(HA.out.2.1.kept hk (by omega)).alloc _,(HA.out.2.2.trans hk (fun i hi=> .inr (by omega))).alloc _⟩
 obtain⟨W4,zu⟩:∃W4,w3.alloc (.cells #[.int .i64 ep,.slice none 0 0,.int .u64 0] 25)=W4:=⟨_,rfl⟩
 rw[zu]at hst
 have kC:=ah zu;clear zu
 obtain⟨g,hg⟩:∃g,w.heap.size+1=g:=⟨_,rfl⟩
 obtain⟨x,hx⟩:∃x,w3.heap.size=x:=⟨_,rfl⟩
 obtain⟨y,hy⟩:∃y,w.heap.size=y:=⟨_,rfl⟩
 rw[hg,hx,hy]at hst ho
 have HX:=ah hx;have HP1:=ah hp1;have HY:=ah hy
 have hxw:g<x/\y<x:=by omega
 have TD:=ah hxw
 clear hx hp1 hxw
 rw[hg,hy]
 clear hr hk hg2 hsz2 HA hg hy
 have HO:=ah ho;clear ho
 have HST:=ah hst;clear hst
 go_wp2_with fail
 rw[kC.out,HX.out]
 refine(kN _ g s (p1,0) 4 HST.out.rd HS.out (by decide)).mono ?_
 intro e w4 hrd
 obtain⟨rfl,hst,hk⟩:=HST.out.read HO.out hrd
 rw[<-HP1.out,HCN.out]at hst⊢
 dsimp only at hst⊢
 have HST:=ah hst
 clear hst hk hrd
 obtain⟨pos,hpos⟩:∃pos:Nat->Nat,pos=fun i=>(put ep.toNat).length+(put n).length+((ms.take i).flatMap fun m=>put m.1.toNat++put m.2.toNat).length:=⟨_,rfl⟩
 have VI:=ah hpos
 have ahk:x<w4.heap.size:=HST.out.x.lt
 have HB:=ah (show x+1<=w4.heap.size by omega)
 clear hpos ahk
 go_wp2_with fail
 go_loopw [16] (fun v16 wr=>∃(i:Nat) (A:Option Addr) (c:Nat),i<=n/\v16=.int .i64 i/\RB w s g x y 25 (pos i,0) #[.int .i64 ep,.slice A i c,.int .u64 0] #[.int .i64 0,.slice none 0 0,.int .u64 0] wr/\aF 65 2 (x+1) wr A i c (aP (ms.take i))) (fun v16 _=>n-(intOf v16).toNat)
 case atStart=>
  refine⟨0,none,0,Nat.zero_le _,rfl,?_,⟨⟨rfl,.inl ⟨rfl,rfl⟩⟩,fun k hk=>by cases hk⟩⟩
  have e0:pos 0=(put ep.toNat).length+(put n).length:=by rw[VI.out];rfl
  rw[e0];exact HST.out
 case round=>
  obtain⟨i,A,c,hi,rfl,hst,hrow⟩:=hrel
  clear HST
  have HST:=ah hst;have bV:=ah hrow
  clear hst hrow
  by_cases hin:i<n
  ·obtain⟨m,hm⟩:∃m,ms[i]? =some m:=⟨_,List.getElem?_eq_getElem (by rw[HN.out];exact hin)⟩
   obtain⟨q,hq1,hq2⟩:=HCP.out.m i m hm
   rw[HN.out]at hq1 hq2
   have hq1':kL s 3 (pos i,0)=(m.1.toNat,q):=by rw[VI.out];exact hq1
   have afK:kL s 1073741824 q=(m.2.toNat,(pos (i+1),0)):=by rw[VI.out];exact hq2
   have b1:=HM.out.id m (List.mem_of_getElem? hm)
   have b2:=HM.out.aU m (List.mem_of_getElem? hm)
   have HQ:=ah (And.intro hq1' (And.intro afK (And.intro (show((m.1.toNat:Nat):Int)=m.1 by omega) (show((m.2.toNat:Nat):Int)=m.2 by omega))))
   have hsn:aP (ms.take (i+1))=aP (ms.take i)++[.int .i64 m.1,.int .i64 m.2]:=by
    rw[List.take_add_one,hm,Option.toList_some,xk];rfl
   have vk:=ah hsn
   clear hm hq1 hq2 hq1' afK b1 b2 hsn
   go_wp2_with fail
   refine(kN _ g s (pos i,0) 3 HST.out.rd HS.out (by decide)).mono ?_
   intro e w6 hrd
   obtain⟨rfl,hst,hk⟩:=HST.out.read HO.out hrd
   rw[HQ.out.1]at hst⊢
   dsimp only at hst⊢
   rw[HQ.out.2.2.1]
   have uX:aF 65 2 (x+1) w6 A i c (aP (ms.take i)):=⟨aC bV.out.1 hk (fun k hk2 e2=>by have:=bV.out.2 k hk2;have:=TD.out;omega),bV.out.2⟩
   obtain⟨W7,zJ⟩:∃W7,w6.alloc (.cells #[.int .i64 m.1,.int .i64 0] 65)=W7:=⟨_,rfl⟩
   have lN:Kept aj w6 W7:=by rw[<-zJ];(repeat'(first|(with_reducible first|exact ak|apply au|apply ay|apply aA|apply aB)|(right;simp;done)))
   have Zy:Has W7 w6.heap.size 65 #[.int .i64 m.1,.int .i64 0]:=by rw[<-zJ];exact Has.new _ _ _
   obtain⟨z,hz⟩:∃z,w6.heap.size=z:=⟨_,rfl⟩
   rw[hz]at Zy
   have hzx:x<z:=by rw[<-hz];exact hst.x.lt
   have hzy:y<z:=by rw[<-hz];exact hst.y.lt
   have hzg:g<z:=by rw[<-hz];exact hst.rd.1.lt
   have V8:∀k,(Value.slice A i c).ownBlock=some k->k<z:=fun k hk2=>by rw[<-hz];exact lH uX.1 hk2
   have HZ:=ah (And.intro hz (And.intro hzx (And.intro hzy (And.intro hzg V8))))
   have HST:=ah (hst.keep lN);have bV:=ah (uX.kept lN);have HZ7:=ah Zy;have WT:=ah zJ
   clear hst hk uX lN Zy hz hzx hzy hzg V8 zJ hrd
   go_wp2_with fail
   rw[WT.out,HZ.out.1]
   refine(kN _ g s q 1073741824 HST.out.rd HS.out (by decide)).mono ?_
   intro e w8 hrd
   obtain⟨rfl,hst,hk⟩:=HST.out.read HO.out hrd
   rw[HQ.out.2.1]at hst⊢
   dsimp only at hst⊢
   rw[HQ.out.2.2.2]
   have DI:=HZ7.out.kept hk (fun e=>by have:=HZ.out.2.2.2.1;omega)
   have zW:aF 65 2 (x+1) w8 A i c (aP (ms.take i)):=⟨aC bV.out.1 hk (fun k hk2 e2=>by have:=bV.out.2 k hk2;have:=TD.out;omega),bV.out.2⟩
   have z1:w8.cell? ⟨z,1,none⟩=some (.int .i64 0):=DI.cell 1
   have zf1:=DI.frozen 1
   obtain⟨W9,hW9⟩:∃W9,w8.setCell ⟨z,1,none⟩ (.int .i64 m.2)=W9:=⟨_,rfl⟩
   have hk9:Kept (fun k=>k=z) w8 W9:=by rw[<-hW9];(repeat'(first|(with_reducible first|exact ak|apply au|apply ay|apply aA|apply aB)|(exact .inl rfl)|(right;simp;done)))
   have FX:Has W9 z 65 #[.int .i64 m.1,.int .i64 m.2]:=by rw[<-hW9];exact Has.dB DI rfl
   have nO:=hst.off hk9 (fun e=>by have:=HZ.out.2.2.2.1;omega) (fun e=>by have:=HZ.out.2.1;omega) (fun e=>by have:=HZ.out.2.2.1;omega) (fun k e=>by rw[e];have:=HZ.out.2.1;have:=HO.out.wx;omega)
   have Jy:aF 65 2 (x+1) W9 A i c (aP (ms.take i)):=⟨aC zW.1 hk9 (fun k hk2 e2=>by have:=HZ.out.2.2.2.2 k hk2;omega),zW.2⟩
   have x1:W9.cell? ⟨x,1,none⟩=some (.slice A i c):=nO.x.cell 1
   have y0:W9.cell? ⟨z,0,none⟩=some (.int .i64 m.1):=FX.cell 0
   have y1:W9.cell? ⟨z,1,none⟩=some (.int .i64 m.2):=FX.cell 1
   have HST:=ah nO;have bV:=ah Jy;have HZ9:=ah FX
   have gq:Hid (i+1<=maxLen):=ah (by unfold maxLen;omega)
   have iO:Hid ((i+1)*16<=140737488355328):=ah (by omega)
   clear hst hk DI zW hk9 FX nO Jy hrd
   go_wp2_with (at_builtin;refine aN aO.nP (.tmp 25) (.tmp 27) rfl rfl (Value.slice A i c) rfl ((bV.out.kept ((Kept.refl _ _).alloc _)).1) 1 rfl (Src.dn (m:=1) (cs:=#[.int .i64 m.1,.int .i64 m.2]) (Has.bT _ 65 _ (by simp)) rfl) (by intro u hu;simp at hu;rcases hu with rfl|rfl<;>rfl) gq.out iO.out ?_;intro A6 c6 w10 Dv Eu ha6;have hk10:Kept (fun k=>x+1<=k) W9 w10:=Kept.grown ((Kept.refl _ _).alloc _) Eu (fun k hk=> .inl (bV.out.2 k hk));have Nl:=HST.out.off hk10 (fun e=>by have:=TD.out;omega) (fun e=>by omega) (fun e=>by have:=TD.out;omega) (fun k e=>by have:=HO.out.wx;omega);have x10:w10.cell? ⟨x,1,none⟩=some (.slice A i c):=Nl.x.cell 1;have aii:w10.frozen? ⟨x,1,none⟩=false:=Nl.x.frozen 1;have EV:aF 65 2 (x+1) w10 A6 (i+1) c6 (aP (ms.take i)++[.int .i64 m.1,.int .i64 m.2]):=bV.out.snoc (by have:=HST.out.x.lt;simp;omega) Dv ha6;have acr:=ah EV;have agF:=ah Nl;clear Dv Eu ha6 hk10 Nl EV)
   go_roundw
   case rel=>
    refine⟨i+1,A6,c6,by omega,by go_num,agF.out.uV HO.out 1 _ rfl,?_⟩
    rw[vk.out]
    exact⟨aC acr.out.1 (F:=fun k=>k=x) (by(repeat'(first|(with_reducible first|exact ak|apply au|apply ay|apply aA|apply aB)|(exact .inl rfl)|(right;simp;done)))) (fun k hk e=>by have:=acr.out.2 k hk;omega),acr.out.2⟩
   case measure=>simp[intOf];omega
  ·obtain rfl:i=n:=by omega
   obtain⟨q,hq1,hq2⟩:=HCP.out.f
   have hpn:pos i=(put ep.toNat).length+(put i).length+(ms.flatMap fun m=>put m.1.toNat++put m.2.toNat).length:=by rw[VI.out];dsimp only;rw[<-HN.out,List.take_length]
   rw[HN.out,<-hpn]at hq1
   have HQ:=ah (And.intro hq1 hq2)
   have hrow:=bV.out
   rw[<-HN.out,List.take_length,HN.out]at hrow
   have bV:=ah hrow
   clear hq1 hq2 hpn hrow
   go_wp2_with fail
   refine(Hu _ g s (pos i,0) HST.out.rd HS.out).mono ?_
   intro e w6 hrd
   obtain⟨rfl,hst,hk⟩:=HST.out.read HO.out hrd
   rw[HQ.out.1]at hst⊢
   dsimp only at hst⊢
   rw[HE.out.2]
   have uX:aF 65 2 (x+1) w6 A i c (aP ms):=⟨aC bV.out.1 hk (fun k hk2 e2=>by have:=bV.out.2 k hk2;have:=TD.out;omega),bV.out.2⟩
   have x2:w6.cell? ⟨x,2,none⟩=some (.int .u64 0):=hst.x.cell 2
   have xf2:=hst.x.frozen 2
   obtain⟨W7,zJ⟩:∃W7,w6.setCell ⟨x,2,none⟩ (.int .u64 fl)=W7:=⟨_,rfl⟩
   have lN:Kept (fun k=>k=x) w6 W7:=by rw[<-zJ];(repeat'(first|(with_reducible first|exact ak|apply au|apply ay|apply aA|apply aB)|(exact .inl rfl)|(right;simp;done)))
   have E4:RB w s g x y 25 q #[.int .i64 ep,.slice A i c,.int .u64 fl] #[.int .i64 0,.slice none 0 0,.int .u64 0] W7:=by rw[<-zJ];exact hst.uV HO.out 2 _ rfl
   have ac1:aF 65 2 (x+1) W7 A i c (aP ms):=⟨aC uX.1 lN (fun k hk2 e2=>by have:=uX.2 k hk2;omega),uX.2⟩
   have hend:=Bi W7 g s q E4.rd HS.out
   rw[HQ.out.2]at hend
   have HST:=ah E4;have bV:=ah ac1;have jv:=ah hend
   clear hst hk uX lN E4 ac1 hend hrd
   go_wp2_with fail
   clear zJ x2 xf2
   refine jv.out.mono ?_
   rintro e w8 ⟨rfl,hk8⟩
   have Az:=HST.out.keep hk8
   have x0:w8.cell? ⟨x,0,none⟩=some (.int .i64 ep):=Az.x.cell 0
   have x1:w8.cell? ⟨x,1,none⟩=some (.slice A i c):=Az.x.cell 1
   have x2:w8.cell? ⟨x,2,none⟩=some (.int .u64 fl):=Az.x.cell 2
   have zW:=bV.out.kept hk8
   have hck:=rE w8 ep fl A c ms (by rw[HN.out];exact Src.bC zW.1) (by rw[HN.out];exact(fV zW.1).1) (by rw[HN.out];omega)
   rw[HC.out,HN.out]at hck
   unfold lq at hck
   have HST:=ah Az;have bV:=ah zW;have lX:=ah hck
   clear hk8 Az zW hck
   go_wp2_with fail
   clear x0 x1 x2
   refine lX.out.mono ?_
   rintro e w9 ⟨rfl,hk9⟩
   have nO:=HST.out.keep hk9
   have x0:w9.cell? ⟨x,0,none⟩=some (.int .i64 ep):=nO.x.cell 0
   have x1:w9.cell? ⟨x,1,none⟩=some (.slice A i c):=nO.x.cell 1
   have x2:w9.cell? ⟨x,2,none⟩=some (.int .u64 fl):=nO.x.cell 2
   have y0:w9.cell? ⟨y,0,none⟩=some (.int .i64 0):=nO.y.cell 0
   have y1:w9.cell? ⟨y,1,none⟩=some (.slice none 0 0):=nO.y.cell 1
   have y2:w9.cell? ⟨y,2,none⟩=some (.int .u64 0):=nO.y.cell 2
   have yf0:=nO.y.frozen 0;have yf1:=nO.y.frozen 1;have yf2:=nO.y.frozen 2
   have HST:=ah nO;have bV:=ah (bV.out.kept hk9)
   clear hk9 nO
   go_wp2_with fail
   have hf:Has (((w9.setCell ⟨y,0,none⟩ (.int .i64 ep)).setCell ⟨y,1,none⟩ (.slice A i c)).setCell ⟨y,2,none⟩ (.int .u64 fl)) y 25 #[.int .i64 ep,.slice A i c,.int .u64 fl]:=((HST.out.y.put 0 (.int .i64 ep)).put 1 (.slice A i c)).put 2 (.int .u64 fl)
   have iC:Kept (fun k=>k=y) w9 (((w9.setCell ⟨y,0,none⟩ (.int .i64 ep)).setCell ⟨y,1,none⟩ (.slice A i c)).setCell ⟨y,2,none⟩ (.int .u64 fl)):=by(repeat'(first|(with_reducible first|exact ak|apply au|apply ay|apply aA|apply aB)|(exact .inl rfl)|(right;simp;done)))
   refine bodyPost_ret (zV rfl _ _ y _ rfl (ZK hf)) rfl ?_
   refine⟨A,c,rfl,⟨aC bV.out.1 iC (fun k hk e=>by have:=bV.out.2 k hk;have:=TD.out;omega),fun k hk=>by have:=bV.out.2 k hk;have:=HO.out.wx;omega⟩,HST.out.k.trans iC (fun k e=> .inr (by rw[e];exact HO.out.wy))⟩
end DL
namespace DL
open aO Ops xE gZ Vn Mst mP
def nz(k:Int):aG:=⟨k,0,0,0,none,0,[],0,none,0,[],none,0,⟨0,0,[]⟩,0,⟨0,0,0⟩,⟨0,0,0,0⟩⟩
abbrev qh(k:Int):Array Value:=#[.int .i64 k,.int .i64 0,.int .u64 0,.int .i64 0,.slice none 0 0,.int .u64 0,.slice none 0 0,.int .i64 0,.int .i64 0,.slice none 0 0,.int .u64 0,.int .i64 0,.int .u64 0,.int .i64 0,.int .i64 0,.int .i64 0,.int .i64 0,.int .i64 0]
section
variable{w W:World}{s:ByteArray}{g x y:Nat}{ys:Array Value}{r:RS}
theorem afL(o:Od w g x y)(hs:s.size<=maxLen)(a n:Int){r1 r2:RS}(ha:iW s r=((a:Int).toNat,r1))(pa:0<=a)(hn:kL s 1073741824 r1=((n:Int).toNat,r2))(pn:0<=n)(h0:r2.2=0)(h:RB w s g x y 83 r (qh 4) ys W):
  Calls Tryz.prog 84 #[.pointer (some ⟨g,0,none⟩),.pointer (some ⟨x,0,none⟩)] W fun e W'=>e=.returned (.int .i64 0)/\RB w s g x y 83 r2 #[.int .i64 4,.int .i64 n,.int .u64 a,.int .i64 0,.slice none 0 0,.int .u64 0,.slice none 0 0,.int .i64 0,.int .i64 0,.slice none 0 0,.int .u64 0,.int .i64 0,.int .u64 0,.int .i64 0,.int .i64 0,.int .i64 0,.int .i64 0,.int .i64 0] ys W':=by
 have HO:=ah o;have HST:=ah h
 have k0:W.cell? ⟨x,0,none⟩=some (.int .i64 4):=h.x.cell 0
 have ca:((a.toNat:Nat):Int)=a:=by omega
 have cn:((n.toNat:Nat):Int)=n:=by omega
 have ZL:=ah (And.intro ha ca)
 have MI:=ah (And.intro hn cn)
 clear o h ha ca pa hn cn pn
 go_enter Tryz.func84,Tryz.ntmps84
 go_wp2_with fail
 clear k0
 refine(Hu _ g s r HST.out.rd hs).mono ?_
 intro e w1 hrd
 obtain⟨rfl,hst,hk⟩:=HST.out.read HO.out hrd
 rw[ZL.out.1]at hst⊢
 dsimp only at hst⊢
 rw[ZL.out.2]
 have q:w1.cell? ⟨x,2,none⟩=some (.int .u64 0):=hst.x.cell 2
 have qf:=hst.x.frozen 2
 obtain⟨W1,hW⟩:∃W1,w1.setCell ⟨x,2,none⟩ (.int .u64 a)=W1:=⟨_,rfl⟩
 have hst2:RB w s g x y 83 r1 #[.int .i64 4,.int .i64 0,.int .u64 a,.int .i64 0,.slice none 0 0,.int .u64 0,.slice none 0 0,.int .i64 0,.int .i64 0,.slice none 0 0,.int .u64 0,.int .i64 0,.int .u64 0,.int .i64 0,.int .i64 0,.int .i64 0,.int .i64 0,.int .i64 0] ys W1:=by rw[<-hW];exact hst.uV HO.out 2 _ rfl
 clear HST hst hk hrd
 have HST:=ah hst2
 clear hst2
 go_wp2_with fail
 clear hW q qf
 refine(kN _ g s r1 1073741824 HST.out.rd hs (by decide)).mono ?_
 intro e w2 hrd
 obtain⟨rfl,hst,hk⟩:=HST.out.read HO.out hrd
 rw[MI.out.1]at hst⊢
 dsimp only at hst⊢
 rw[MI.out.2]
 have q:w2.cell? ⟨x,1,none⟩=some (.int .i64 0):=hst.x.cell 1
 have qf:=hst.x.frozen 1
 obtain⟨W2,hW⟩:∃W2,w2.setCell ⟨x,1,none⟩ (.int .i64 n)=W2:=⟨_,rfl⟩
 have hst2:RB w s g x y 83 r2 #[.int .i64 4,.int .i64 n,.int .u64 a,.int .i64 0,.slice none 0 0,.int .u64 0,.slice none 0 0,.int .i64 0,.int .i64 0,.slice none 0 0,.int .u64 0,.int .i64 0,.int .u64 0,.int .i64 0,.int .i64 0,.int .i64 0,.int .i64 0,.int .i64 0] ys W2:=by rw[<-hW];exact hst.uV HO.out 1 _ rfl
 clear HST hst hk hrd
 have HST:=ah hst2
 clear hst2
 go_wp2_with fail
 clear hW q qf
 refine(iJ _ g s _ HST.out.rd).mono ?_
 rintro e w9 ⟨rfl,rfl⟩
 rw[h0]
 go_wp2
 go_ret
 exact⟨rfl,HST.out⟩
theorem afM(o:Od w g x y)(hs:s.size<=maxLen)(n:Int){r1:RS}(hn:kL s 1073741824 r=((n:Int).toNat,r1))(pn:0<=n)(h0:r1.2=0)(h:RB w s g x y 83 r (qh 5) ys W):
  Calls Tryz.prog 84 #[.pointer (some ⟨g,0,none⟩),.pointer (some ⟨x,0,none⟩)] W fun e W'=>e=.returned (.int .i64 0)/\RB w s g x y 83 r1 #[.int .i64 5,.int .i64 n,.int .u64 0,.int .i64 0,.slice none 0 0,.int .u64 0,.slice none 0 0,.int .i64 0,.int .i64 0,.slice none 0 0,.int .u64 0,.int .i64 0,.int .u64 0,.int .i64 0,.int .i64 0,.int .i64 0,.int .i64 0,.int .i64 0] ys W':=by
 have HO:=ah o;have HST:=ah h
 have k0:W.cell? ⟨x,0,none⟩=some (.int .i64 5):=h.x.cell 0
 have cn:((n.toNat:Nat):Int)=n:=by omega
 have MI:=ah (And.intro hn cn)
 clear o h hn cn pn
 go_enter Tryz.func84,Tryz.ntmps84
 go_wp2_with fail
 clear k0
 refine(kN _ g s r 1073741824 HST.out.rd hs (by decide)).mono ?_
 intro e w1 hrd
 obtain⟨rfl,hst,hk⟩:=HST.out.read HO.out hrd
 rw[MI.out.1]at hst⊢
 dsimp only at hst⊢
 rw[MI.out.2]
 have q:w1.cell? ⟨x,1,none⟩=some (.int .i64 0):=hst.x.cell 1
 have qf:=hst.x.frozen 1
 obtain⟨W1,hW⟩:∃W1,w1.setCell ⟨x,1,none⟩ (.int .i64 n)=W1:=⟨_,rfl⟩
 have hst2:RB w s g x y 83 r1 #[.int .i64 5,.int .i64 n,.int .u64 0,.int .i64 0,.slice none 0 0,.int .u64 0,.slice none 0 0,.int .i64 0,.int .i64 0,.slice none 0 0,.int .u64 0,.int .i64 0,.int .u64 0,.int .i64 0,.int .i64 0,.int .i64 0,.int .i64 0,.int .i64 0] ys W1:=by rw[<-hW];exact hst.uV HO.out 1 _ rfl
 clear HST hst hk hrd
 have HST:=ah hst2
 clear hst2
 go_wp2_with fail
 clear hW q qf
 refine(iJ _ g s _ HST.out.rd).mono ?_
 rintro e w9 ⟨rfl,rfl⟩
 rw[h0]
 go_wp2
 go_ret
 exact⟨rfl,HST.out⟩
theorem afN(o:Od w g x y)(hs:s.size<=maxLen)(n:Int){r1:RS}(hn:kL s 1073741824 r=((n:Int).toNat,r1))(pn:0<=n)(h0:r1.2=0)(h:RB w s g x y 83 r (qh 7) ys W):
  Calls Tryz.prog 84 #[.pointer (some ⟨g,0,none⟩),.pointer (some ⟨x,0,none⟩)] W fun e W'=>e=.returned (.int .i64 0)/\RB w s g x y 83 r1 #[.int .i64 7,.int .i64 n,.int .u64 0,.int .i64 0,.slice none 0 0,.int .u64 0,.slice none 0 0,.int .i64 0,.int .i64 0,.slice none 0 0,.int .u64 0,.int .i64 0,.int .u64 0,.int .i64 0,.int .i64 0,.int .i64 0,.int .i64 0,.int .i64 0] ys W':=by
 have HO:=ah o;have HST:=ah h
 have k0:W.cell? ⟨x,0,none⟩=some (.int .i64 7):=h.x.cell 0
 have cn:((n.toNat:Nat):Int)=n:=by omega
 have MI:=ah (And.intro hn cn)
 clear o h hn cn pn
 go_enter Tryz.func84,Tryz.ntmps84
 go_wp2_with fail
 clear k0
 refine(kN _ g s r 1073741824 HST.out.rd hs (by decide)).mono ?_
 intro e w1 hrd
 obtain⟨rfl,hst,hk⟩:=HST.out.read HO.out hrd
 rw[MI.out.1]at hst⊢
 dsimp only at hst⊢
 rw[MI.out.2]
 have q:w1.cell? ⟨x,1,none⟩=some (.int .i64 0):=hst.x.cell 1
 have qf:=hst.x.frozen 1
 obtain⟨W1,hW⟩:∃W1,w1.setCell ⟨x,1,none⟩ (.int .i64 n)=W1:=⟨_,rfl⟩
 have hst2:RB w s g x y 83 r1 #[.int .i64 7,.int .i64 n,.int .u64 0,.int .i64 0,.slice none 0 0,.int .u64 0,.slice none 0 0,.int .i64 0,.int .i64 0,.slice none 0 0,.int .u64 0,.int .i64 0,.int .u64 0,.int .i64 0,.int .i64 0,.int .i64 0,.int .i64 0,.int .i64 0] ys W1:=by rw[<-hW];exact hst.uV HO.out 1 _ rfl
 clear HST hst hk hrd
 have HST:=ah hst2
 clear hst2
 go_wp2_with fail
 clear hW q qf
 refine(iJ _ g s _ HST.out.rd).mono ?_
 rintro e w9 ⟨rfl,rfl⟩
 rw[h0]
 go_wp2
 go_ret
 exact⟨rfl,HST.out⟩
theorem afO(o:Od w g x y)(hs:s.size<=maxLen)(i a l:Int){r1 r2 r3:RS}(hi:kL s 1073741824 r=((i:Int).toNat,r1))(pi:0<=i)(ha:iW s r1=((a:Int).toNat,r2))(pa:0<=a)(hl:kL s 1073741824 r2=((l:Int).toNat,r3))(pl:0<=l)(h0:r3.2=0)(h:RB w s g x y 83 r (qh 6) ys W):
  Calls Tryz.prog 84 #[.pointer (some ⟨g,0,none⟩),.pointer (some ⟨x,0,none⟩)] W fun e W'=>e=.returned (.int .i64 0)/\RB w s g x y 83 r3 #[.int .i64 6,.int .i64 0,.int .u64 0,.int .i64 0,.slice none 0 0,.int .u64 0,.slice none 0 0,.int .i64 0,.int .i64 0,.slice none 0 0,.int .u64 0,.int .i64 i,.int .u64 a,.int .i64 l,.int .i64 0,.int .i64 0,.int .i64 0,.int .i64 0] ys W':=by
 have HO:=ah o;have HST:=ah h
 have k0:W.cell? ⟨x,0,none⟩=some (.int .i64 6):=h.x.cell 0
 have ci:((i.toNat:Nat):Int)=i:=by omega
 have ca:((a.toNat:Nat):Int)=a:=by omega
 have cl:((l.toNat:Nat):Int)=l:=by omega
 have HXi:=ah (And.intro hi ci)
 have ZL:=ah (And.intro ha ca)
 have HXl:=ah (And.intro hl cl)
 clear o h hi ci pi ha ca pa hl cl pl
 go_enter Tryz.func84,Tryz.ntmps84
 go_wp2_with fail
 clear k0
 refine(kN _ g s r 1073741824 HST.out.rd hs (by decide)).mono ?_
 intro e w1 hrd
 obtain⟨rfl,hst,hk⟩:=HST.out.read HO.out hrd
 rw[HXi.out.1]at hst⊢
 dsimp only at hst⊢
 rw[HXi.out.2]
 have q:w1.cell? ⟨x,11,none⟩=some (.int .i64 0):=hst.x.cell 11
 have qf:=hst.x.frozen 11
 obtain⟨W1,hW⟩:∃W1,w1.setCell ⟨x,11,none⟩ (.int .i64 i)=W1:=⟨_,rfl⟩
 have hst2:RB w s g x y 83 r1 #[.int .i64 6,.int .i64 0,.int .u64 0,.int .i64 0,.slice none 0 0,.int .u64 0,.slice none 0 0,.int .i64 0,.int .i64 0,.slice none 0 0,.int .u64 0,.int .i64 i,.int .u64 0,.int .i64 0,.int .i64 0,.int .i64 0,.int .i64 0,.int .i64 0] ys W1:=by rw[<-hW];exact hst.uV HO.out 11 _ rfl
 clear HST hst hk hrd
 have HST:=ah hst2
 clear hst2
 go_wp2_with fail
 clear hW q qf
 refine(Hu _ g s r1 HST.out.rd hs).mono ?_
 intro e w2 hrd
 obtain⟨rfl,hst,hk⟩:=HST.out.read HO.out hrd
 rw[ZL.out.1]at hst⊢
 dsimp only at hst⊢
 rw[ZL.out.2]
 have q:w2.cell? ⟨x,12,none⟩=some (.int .u64 0):=hst.x.cell 12
 have qf:=hst.x.frozen 12
 obtain⟨W2,hW⟩:∃W2,w2.setCell ⟨x,12,none⟩ (.int .u64 a)=W2:=⟨_,rfl⟩
 have hst2:RB w s g x y 83 r2 #[.int .i64 6,.int .i64 0,.int .u64 0,.int .i64 0,.slice none 0 0,.int .u64 0,.slice none 0 0,.int .i64 0,.int .i64 0,.slice none 0 0,.int .u64 0,.int .i64 i,.int .u64 a,.int .i64 0,.int .i64 0,.int .i64 0,.int .i64 0,.int .i64 0] ys W2:=by rw[<-hW];exact hst.uV HO.out 12 _ rfl
 clear HST hst hk hrd
 have HST:=ah hst2
 clear hst2
 go_wp2_with fail
 clear hW q qf
 refine(kN _ g s r2 1073741824 HST.out.rd hs (by decide)).mono ?_
 intro e w3 hrd
 obtain⟨rfl,hst,hk⟩:=HST.out.read HO.out hrd
 rw[HXl.out.1]at hst⊢
 dsimp only at hst⊢
 rw[HXl.out.2]
 have q:w3.cell? ⟨x,13,none⟩=some (.int .i64 0):=hst.x.cell 13
 have qf:=hst.x.frozen 13
 obtain⟨W3,hW⟩:∃W3,w3.setCell ⟨x,13,none⟩ (.int .i64 l)=W3:=⟨_,rfl⟩
 have hst2:RB w s g x y 83 r3 #[.int .i64 6,.int .i64 0,.int .u64 0,.int .i64 0,.slice none 0 0,.int .u64 0,.slice none 0 0,.int .i64 0,.int .i64 0,.slice none 0 0,.int .u64 0,.int .i64 i,.int .u64 a,.int .i64 l,.int .i64 0,.int .i64 0,.int .i64 0,.int .i64 0] ys W3:=by rw[<-hW];exact hst.uV HO.out 13 _ rfl
 clear HST hst hk hrd
 have HST:=ah hst2
 clear hst2
 go_wp2_with fail
 clear hW q qf
 refine(iJ _ g s _ HST.out.rd).mono ?_
 rintro e w9 ⟨rfl,rfl⟩
 rw[h0]
 go_wp2
 go_ret
 exact⟨rfl,HST.out⟩
theorem afP(o:Od w g x y)(hs:s.size<=maxLen)(c b f p:Int){r1 r2 r3 r4:RS}(hc:kL s 2 r=((c:Int).toNat,r1))(pc:0<=c)(hb:kL s 1073741824 r1=((b:Int).toNat,r2))(pb:0<=b)(hf:kL s 21 r2=((f:Int).toNat,r3))(pf:0<=f)(hp:kL s 1073741824 r3=((p:Int).toNat,r4))(pp:0<=p)(h0:r4.2=0)(h:RB w s g x y 83 r (qh 8) ys W):
  Calls Tryz.prog 84 #[.pointer (some ⟨g,0,none⟩),.pointer (some ⟨x,0,none⟩)] W fun e W'=>e=.returned (.int .i64 0)/\RB w s g x y 83 r4 #[.int .i64 8,.int .i64 0,.int .u64 0,.int .i64 0,.slice none 0 0,.int .u64 0,.slice none 0 0,.int .i64 0,.int .i64 0,.slice none 0 0,.int .u64 0,.int .i64 0,.int .u64 0,.int .i64 0,.int .i64 c,.int .i64 b,.int .i64 f,.int .i64 p] ys W':=by
 have HO:=ah o;have HST:=ah h
 have k0:W.cell? ⟨x,0,none⟩=some (.int .i64 8):=h.x.cell 0
 have cc:((c.toNat:Nat):Int)=c:=by omega
 have cb:((b.toNat:Nat):Int)=b:=by omega
 have cf:((f.toNat:Nat):Int)=f:=by omega
 have cp:((p.toNat:Nat):Int)=p:=by omega
 have HXc:=ah (And.intro hc cc)
 have HXb:=ah (And.intro hb cb)
 have HXf:=ah (And.intro hf cf)
 have HXp:=ah (And.intro hp cp)
 clear o h hc cc pc hb cb pb hf cf pf hp cp pp
 go_enter Tryz.func84,Tryz.ntmps84
 go_wp2_with fail
 clear k0
 refine(kN _ g s r 2 HST.out.rd hs (by decide)).mono ?_
 intro e w1 hrd
 obtain⟨rfl,hst,hk⟩:=HST.out.read HO.out hrd
 rw[HXc.out.1]at hst⊢
 dsimp only at hst⊢
 rw[HXc.out.2]
 have q:w1.cell? ⟨x,14,none⟩=some (.int .i64 0):=hst.x.cell 14
 have qf:=hst.x.frozen 14
 obtain⟨W1,hW⟩:∃W1,w1.setCell ⟨x,14,none⟩ (.int .i64 c)=W1:=⟨_,rfl⟩
 have hst2:RB w s g x y 83 r1 #[.int .i64 8,.int .i64 0,.int .u64 0,.int .i64 0,.slice none 0 0,.int .u64 0,.slice none 0 0,.int .i64 0,.int .i64 0,.slice none 0 0,.int .u64 0,.int .i64 0,.int .u64 0,.int .i64 0,.int .i64 c,.int .i64 0,.int .i64 0,.int .i64 0] ys W1:=by rw[<-hW];exact hst.uV HO.out 14 _ rfl
 clear HST hst hk hrd
 have HST:=ah hst2
 clear hst2
 go_wp2_with fail
 clear hW q qf
 refine(kN _ g s r1 1073741824 HST.out.rd hs (by decide)).mono ?_
 intro e w2 hrd
 obtain⟨rfl,hst,hk⟩:=HST.out.read HO.out hrd
 rw[HXb.out.1]at hst⊢
 dsimp only at hst⊢
 rw[HXb.out.2]
 have q:w2.cell? ⟨x,15,none⟩=some (.int .i64 0):=hst.x.cell 15
 have qf:=hst.x.frozen 15
 obtain⟨W2,hW⟩:∃W2,w2.setCell ⟨x,15,none⟩ (.int .i64 b)=W2:=⟨_,rfl⟩
 have hst2:RB w s g x y 83 r2 #[.int .i64 8,.int .i64 0,.int .u64 0,.int .i64 0,.slice none 0 0,.int .u64 0,.slice none 0 0,.int .i64 0,.int .i64 0,.slice none 0 0,.int .u64 0,.int .i64 0,.int .u64 0,.int .i64 0,.int .i64 c,.int .i64 b,.int .i64 0,.int .i64 0] ys W2:=by rw[<-hW];exact hst.uV HO.out 15 _ rfl
 clear HST hst hk hrd
 have HST:=ah hst2
 clear hst2
 go_wp2_with fail
 clear hW q qf
 refine(kN _ g s r2 21 HST.out.rd hs (by decide)).mono ?_
 intro e w3 hrd
 obtain⟨rfl,hst,hk⟩:=HST.out.read HO.out hrd
 rw[HXf.out.1]at hst⊢
 dsimp only at hst⊢
 rw[HXf.out.2]
 have q:w3.cell? ⟨x,16,none⟩=some (.int .i64 0):=hst.x.cell 16
 have qf:=hst.x.frozen 16
 obtain⟨W3,hW⟩:∃W3,w3.setCell ⟨x,16,none⟩ (.int .i64 f)=W3:=⟨_,rfl⟩
 have hst2:RB w s g x y 83 r3 #[.int .i64 8,.int .i64 0,.int .u64 0,.int .i64 0,.slice none 0 0,.int .u64 0,.slice none 0 0,.int .i64 0,.int .i64 0,.slice none 0 0,.int .u64 0,.int .i64 0,.int .u64 0,.int .i64 0,.int .i64 c,.int .i64 b,.int .i64 f,.int .i64 0] ys W3:=by rw[<-hW];exact hst.uV HO.out 16 _ rfl
 clear HST hst hk hrd
 have HST:=ah hst2
 clear hst2
 go_wp2_with fail
 clear hW q qf
 refine(kN _ g s r3 1073741824 HST.out.rd hs (by decide)).mono ?_
 intro e w4 hrd
 obtain⟨rfl,hst,hk⟩:=HST.out.read HO.out hrd
 rw[HXp.out.1]at hst⊢
 dsimp only at hst⊢
 rw[HXp.out.2]
 have q:w4.cell? ⟨x,17,none⟩=some (.int .i64 0):=hst.x.cell 17
 have qf:=hst.x.frozen 17
 obtain⟨W4,hW⟩:∃W4,w4.setCell ⟨x,17,none⟩ (.int .i64 p)=W4:=⟨_,rfl⟩
 have hst2:RB w s g x y 83 r4 #[.int .i64 8,.int .i64 0,.int .u64 0,.int .i64 0,.slice none 0 0,.int .u64 0,.slice none 0 0,.int .i64 0,.int .i64 0,.slice none 0 0,.int .u64 0,.int .i64 0,.int .u64 0,.int .i64 0,.int .i64 c,.int .i64 b,.int .i64 f,.int .i64 p] ys W4:=by rw[<-hW];exact hst.uV HO.out 17 _ rfl
 clear HST hst hk hrd
 have HST:=ah hst2
 clear hst2
 go_wp2_with fail
 clear hW q qf
 refine(iJ _ g s _ HST.out.rd).mono ?_
 rintro e w9 ⟨rfl,rfl⟩
 rw[h0]
 go_wp2
 go_ret
 exact⟨rfl,HST.out⟩
end
end DL
end Go.Proofs.YtfjdpbbgfjhnlaaGreat

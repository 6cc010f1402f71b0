/- Part 42 of what the proof needs. -/
import Derived.Test.YtfjdpbbgfjhnlaaGreatMK40
set_option linter.unusedSimpArgs false
set_option linter.unusedVariables false
set_option maxHeartbeats 32000000
set_option maxRecDepth 100000
namespace Go.Proofs.YtfjdpbbgfjhnlaaGreat
open Go.RowKit
set_option maxRecDepth 100000
namespace DL
open aO Ops xE gZ Vn Mst mP
abbrev nc1(ep fl:Int)(A B:Option Addr)(n c m d:Nat):Array Value:=#[.int .i64 1,.int .i64 0,.int .u64 0,.int .i64 ep,.slice A n c,.int .u64 fl,.slice B m d,.int .i64 0,.int .i64 0,.slice none 0 0,.int .u64 0,.int .i64 0,.int .u64 0,.int .i64 0,.int .i64 0,.int .i64 0,.int .i64 0,.int .i64 0]
section
variable{w W:World}{s:ByteArray}{g x y:Nat}{ys:Array Value}{r r1:RS}
theorem ZM(o:Od w g x y)(hs:s.size<=maxLen)(ep fl:Int)(ms:List Mem)(hc:aO.chk ep ms=0)(hf:0<=fl/\fl<=aT)(hT:oZ s 65536 r=(ku ep ms fl,r1))(h1:r1.2=0)(h:RB w s g x y 83 r (qh 1) ys W)(B:Nat)(hB:B<=W.heap.size)(hBb:g<B/\x<B/\y<B)(hw:w.heap.size<=B):
  Calls Tryz.prog 142 #[.pointer (some ⟨g,0,none⟩),.pointer (some ⟨x,3,none⟩),.func (.func 143) #[] #[]] W fun e W'=>e=.returned (.int .i64 0)/\∃A c,RB w s g x y 83 r1 (nc1 ep fl A none ms.length c 0 0) ys W'/\aF 65 2 B W' A ms.length c (aP ms)/\W.heap.size<=W'.heap.size:=by
 have HO:=ah o;have HST:=ah h
 have hcf:=fun W=>adZ W ep fl ms hc hf
 obtain⟨n,hn⟩:∃n,ms.length=n:=⟨_,rfl⟩
 obtain⟨t,ht⟩:∃t,ku ep ms fl=t:=⟨_,rfl⟩
 rw[ht]at hT
 simp only[ht,hn]at hcf
 rw[hn]
 unfold lq at hcf
 have Bv:=ah hcf;have HT:=ah hT
 have E5:=ah (And.intro hB (And.intro hBb hw))
 clear hcf hT o h hc hf ht hB hBb hw
 go_enter Tryz.func142,Tryz.ntmps142
 go_wp2_with fail
 refine(aco _ g s r 65536 HST.out.rd hs (by decide)).mono ?_
 intro e w1 hrd
 obtain⟨rfl,hst,hk⟩:=HST.out.read HO.out hrd
 rw[HT.out]at hst⊢
 dsimp only at hst⊢
 have lD:=ah (Nat.le_trans E5.out.1 hk.size);have ahl:=ah hk.size
 clear HST hk hrd
 have HST:=ah hst;clear hst
 go_wp2_with fail
 refine(iJ _ g s _ HST.out.rd).mono ?_
 rintro e w9 ⟨rfl,rfl⟩
 rw[h1]
 go_wp2_with fail
 refine(Bv.out _).mono ?_
 rintro e w2 ⟨A,c,rfl,hrow,hk⟩
 have hst:=HST.out.keep hk
 have q3:w2.cell? ⟨x,3,none⟩=some (.int .i64 0):=hst.x.cell 3
 have q4:w2.cell? ⟨x,4,none⟩=some (.slice none 0 0):=hst.x.cell 4
 have q5:w2.cell? ⟨x,5,none⟩=some (.int .u64 0):=hst.x.cell 5
 have f3:=hst.x.frozen 3;have f4:=hst.x.frozen 4;have f5:=hst.x.frozen 5
 have yJ:=ah hst;have bV:=ah hrow;have ahm:=ah hk.size
 clear hk hst hrow
 go_wp2_with fail
 have hst3:=((yJ.out.put HO.out 3 (.int .i64 ep)).put HO.out 4 (.slice A n c)).put HO.out 5 (.int .u64 fl)
 have iC:Kept (fun k=>k=x) w2 (((w2.setCell ⟨x,3,none⟩ (.int .i64 ep)).setCell ⟨x,4,none⟩ (.slice A n c)).setCell ⟨x,5,none⟩ (.int .u64 fl)):=by(repeat'(first|(with_reducible first|exact ak|apply au|apply ay|apply aA|apply aB)|(exact .inl rfl)|(right;simp;done)))
 go_ret
 exact⟨rfl,A,c,hst3,⟨aC bV.out.1 iC (fun k hk e=>by have:=bV.out.2 k hk;have:=lD.out;have:=E5.out.2.1;omega),fun k hk=>Nat.le_trans lD.out (bV.out.2 k hk)⟩,Nat.le_trans (Nat.le_trans ahl.out ahm.out) iC.size⟩
theorem ad3{w:World}{e e2:TypeId}{size size2 n n2:Nat}{v v2:Value}{xs xs2:List Value}(h:w.ownsRow 0 e size v n xs)(h2:w.ownsRow 0 e2 size2 v2 n2 xs2)(hne:e≠e2):∀k,v.ownBlock=some k->¬v2.ownBlock=some k:=fun k hk hf=>by
 rcases h2.2 with⟨h3,_⟩|⟨g,cap,cur,h3,_,hh,_⟩
 ·rw[h3]at hf;cases hf
 ·rw[h3]at hf
  simp[Value.ownBlock]at hf
  subst hf
  exact own_ne h hh hne hk
def ac2(s:ByteArray)(lg:List Int)(r2:RS)(pos:Nat->RS):Prop:=pos 0=r2/\∀i j,lg[i]? =some j->kL s 3 (pos i)=(j.toNat,pos (i+1))/\0<=j
theorem afQ(o:Od w g x y)(hs:s.size<=maxLen)(ep fl:Int)(ms:List Mem)(lg:List Int)(hc:aO.chk ep ms=0)(hf:0<=fl/\fl<=aT)(hT:oZ s 65536 r=(ku ep ms fl,r1))(h1:r1.2=0){r2:RS}{pos:Nat->RS}(hn2:kL s 4 r1=(lg.length,r2))(hl4:lg.length<=4)(hlr:ac2 s lg r2 pos)(h2:(pos lg.length).2=0)
  (h:RB w s g x y 83 r (qh 1) ys W) (B:Nat) (hB:B<=W.heap.size) (hBb:g<B/\x<B/\y<B) (hw:w.heap.size<=B):
  Calls Tryz.prog 84 #[.pointer (some ⟨g,0,none⟩),.pointer (some ⟨x,0,none⟩)] W fun e W'=>e=.returned (.int .i64 0)/\∃A c B' d,RB w s g x y 83 (pos lg.length) (nc1 ep fl A B' ms.length c lg.length d) ys W'/\aF 65 2 B W' A ms.length c (aP ms)/\aF 3 1 B W' B' lg.length d (ints lg):=by
 have hin:=ZM o hs ep fl ms hc hf hT h1 h B hB hBb hw
 have k0:W.cell? ⟨x,0,none⟩=some (.int .i64 1):=h.x.cell 0
 have HO:=ah o;have Pz:=ah hin;have dL:=ah hn2;have HLR:=ah hlr;have E5:=ah (And.intro hBb hw);have HB0:=ah hB
 obtain⟨n,hn⟩:∃n,ms.length=n:=⟨_,rfl⟩
 obtain⟨m,hm⟩:∃m,lg.length=m:=⟨_,rfl⟩
 rw[hn]at Pz
 rw[hm]at dL hl4 h2
 rw[hn,hm]
 have HM:=ah hm
 clear o hin hc hf hT h1 hn2 hlr h hB hBb hw hn hm
 go_enter Tryz.func84,Tryz.ntmps84
 go_wp2_with fail
 clear k0
 refine Pz.out.mono ?_
 rintro e w1 ⟨rfl,A,c,hst,hrow,hsz1⟩
 have HST:=ah hst;have bV:=ah hrow
 have HZ1:=ah (show B<=w1.heap.size from Nat.le_trans HB0.out hsz1)
 clear hst hrow Pz
 go_wp2_with fail
 refine(kN _ g s r1 4 HST.out.rd hs (by decide)).mono ?_
 intro e w2 hrd
 obtain⟨rfl,hst,hk⟩:=HST.out.read HO.out hrd
 rw[dL.out]at hst⊢
 dsimp only at hst⊢
 have hrow:aF 65 2 B w2 A n c (aP ms):=⟨aC bV.out.1 hk (fun k hk2 e2=>by have:=bV.out.2 k hk2;have:=E5.out.1;omega),bV.out.2⟩
 have yJ:=ah hst;have UG:=ah hrow;have HZ2:=ah (Nat.le_trans HZ1.out hk.size)
 clear hst hrow hk hrd HST bV
 go_wp2_with fail
 go_loopw [35] (fun v35 wr=>∃(i:Nat) (B':Option Addr) (d:Nat),i<=m/\v35=.int .i64 i/\RB w s g x y 83 (pos i) (nc1 ep fl A B' n c i d) ys wr/\aF 65 2 B wr A n c (aP ms)/\aF 3 1 B wr B' i d (ints (lg.take i))/\B<=wr.heap.size) (fun v35 _=>m-(intOf v35).toNat)
 case atStart=>exact⟨0,none,0,Nat.zero_le _,rfl,by rw[HLR.out.1];exact yJ.out,UG.out,⟨⟨rfl,.inl ⟨rfl,rfl⟩⟩,fun k hk=>by cases hk⟩,HZ2.out⟩
 case round=>
  obtain⟨i,B',d,hi,rfl,hst,hrow,ac3,hbz⟩:=hrel
  have HBZ:=ah hbz
  have HST:=ah hst;have bV:=ah hrow;have tq:=ah ac3
  clear hst hrow ac3
  by_cases hin:i<m
  ·obtain⟨j,hj⟩:∃j,lg[i]? =some j:=⟨_,List.getElem?_eq_getElem (by rw[HM.out];exact hin)⟩
   obtain⟨hq,hj0⟩:=HLR.out.2 i j hj
   have hjc:((j.toNat:Nat):Int)=j:=by omega
   have hsn:ints (lg.take (i+1))=ints (lg.take i)++[.int .i64 j]:=by
    rw[List.take_add_one,hj,Option.toList_some];simp[ints]
   have HQ:=ah (And.intro hq hjc);have vk:=ah hsn
   have x6:wr.cell? ⟨x,6,none⟩=some (.slice B' i d):=HST.out.x.cell 6
   have hnum:∀W',Kept aj wr W'->Calls Tryz.prog 82 #[.pointer (some ⟨g,0,none⟩),.int .i64 3] W' fun e w'=>e=.returned (.int .i64 j)/\RB w s g x y 83 (pos (i+1)) (nc1 ep fl A B' n c i d) ys w'/\aF 65 2 B w' A n c (aP ms)/\aF 3 1 B w' B' i d (ints (lg.take i))/\B<=w'.heap.size:=fun W' hW=>by
    have h3:=HST.out.keep hW
    refine(kN W' g s (pos i) 3 h3.rd hs (by decide)).mono ?_
    intro e w' hrd
    obtain⟨rfl,hst,hk⟩:=h3.read HO.out hrd
    rw[hq]at hst
    dsimp only at hst
    rw[hq]
    dsimp only
    rw[hjc]
    have hg:∀k,B<=k->¬k=g:=fun k hk e=>by have:=E5.out.1;omega
    refine⟨rfl,hst,⟨aC (bV.out.kept hW).1 hk (fun k hk2 e2=>hg k (bV.out.2 k hk2) e2),bV.out.2⟩,⟨aC (tq.out.kept hW).1 hk (fun k hk2 e2=>hg k (tq.out.2 k hk2) e2),tq.out.2⟩,?_⟩
    exact Nat.le_trans HBZ.out (Nat.le_trans hW.size hk.size)
   have ahn:=ah hnum
   have gq:Hid (i+1<=maxLen):=ah (by unfold maxLen;omega)
   have iO:Hid ((i+1)*8<=140737488355328):=ah (by omega)
   clear hj hq hj0 hjc hsn hnum
   go_wp2_with fail
   go_region_law (first
    |(go_simp;go_at_call 82;refine(ahn.out _ (by(repeat'(first|(with_reducible first|exact ak|apply au|apply ay|apply aA|apply aB)|(right;simp;done))))).mono ?_;rintro e w6 ⟨rfl,vY,uX,ac4,hb6⟩;have z6:w6.cell? ⟨x,6,none⟩=some (.slice B' i d):=vY.x.cell 6;have z6a:∀o',(w6.alloc o').cell? ⟨x,6,none⟩=some (.slice B' i d):=(fun o'=>(vY.x.alloc o').cell 6);have z6b:∀n' o',((w6.drewN n').alloc o').cell? ⟨x,6,none⟩=some (.slice B' i d):=(fun n' o'=>((vY.x.drewN n').alloc o').cell 6);have y8:=ah vY;have xW:=ah uX;have Dh:=ah ac4;have D7:=ah hb6;clear vY uX ac4 hb6)
    |(with_reducible apply uj aO.jQ (.tmp 41) (.tmp 44) (n:=i) (xs:=ints (lg.take i)) (A:=some ⟨_,0,none⟩) (m:=1) (c:=1) (news:=[.int .i64 j])
      rfl
      rfl
      exact(rfl:_=Value.slice B' i d)
      (refine aC Dh.out.1 (F:=aj) ?_ (fun _ _ x=>x);(repeat'(first|(with_reducible first|exact ak|apply au|apply ay|apply aA|apply aB)|(right;simp;done))))
      exact(rfl:_=Value.slice (some ⟨_,0,none⟩) 1 1)
      (refine Src.dn (t:=3) (cs:=#[.int .i64 j]) ?_ rfl;(repeat (with_reducible first|exact Has.bT _ _ _ (by simp)|apply Has.drew|apply Has.drewN|apply Has.alloc|(apply Has.past<;>(try omega)))))
      (intro u hu;simp at hu;rcases hu with rfl;rfl)
      exact gq.out
      exact iO.out
      intro A9 c9 w9 zG zH zI
      have hk9:Kept (fun k=>(Value.slice B' i d).ownBlock=some k) w6 w9:=by refine Kept.grown ?_ zH (fun k hk=> .inl hk);(repeat'(first|(with_reducible first|exact ak|apply au|apply ay|apply aA|apply aB)|(right;simp;done)))
      have Md:aF 3 1 B w9 A9 (i+1) c9 (ints (lg.take i)++[.int .i64 j]):=Dh.out.snoc (by have:=D7.out;first|(simp;omega)|omega) zG zI
      have nO:=y8.out.off hk9 (fun e=>absurd (Dh.out.2 _ e) (Nat.not_le_of_lt E5.out.1.1)) (fun e=>absurd (Dh.out.2 _ e) (Nat.not_le_of_lt E5.out.1.2.1)) (fun e=>absurd (Dh.out.2 _ e) (Nat.not_le_of_lt E5.out.1.2.2)) (fun k e=>Nat.le_trans E5.out.2 (Dh.out.2 k e))
      have Jy:w9.ownsRow 0 65 2 (.slice A n c) n (aP ms):=aC xW.out.1 hk9 (fun k hk hf=>ad3 xW.out.1 Dh.out.1 (by decide) k hk hf)
      have z9:w9.cell? ⟨x,6,none⟩=some (.slice B' i d):=nO.x.cell 6
      have zf9:w9.frozen? ⟨x,6,none⟩=false:=nO.x.frozen 6
      have aho:=ah nO;have HN9:=ah Md;have FN:=ah Jy;have nK:=ah hk9
      clear zG zH zI hk9 Md nO Jy))
   all_goals
    go_wp2
    go_roundw
    case rel=>
     have iC:Kept (fun k=>k=x) w9 (w9.setCell ⟨x,6,none⟩ (.slice A9 (i+1) c9)):=by(repeat'(first|(with_reducible first|exact ak|apply au|apply ay|apply aA|apply aB)|(exact .inl rfl)|(right;simp;done)))
     refine⟨i+1,A9,c9,by omega,by go_num,aho.out.uV HO.out 6 _ rfl,⟨aC FN.out iC (fun k hk e=>by have:=xW.out.2 k hk;have:=E5.out.1;omega),xW.out.2⟩,?_,Nat.le_trans D7.out (Nat.le_trans nK.out.size iC.size)⟩
     rw[vk.out]
     exact⟨aC HN9.out.1 iC (fun k hk e=>by have:=HN9.out.2 k hk;have:=E5.out.1;omega),HN9.out.2⟩
    case measure=>simp[intOf];omega
  ·obtain rfl:i=m:=by omega
   go_wp2_with fail
   refine(iJ _ g s _ HST.out.rd).mono ?_
   rintro e w9 ⟨rfl,rfl⟩
   rw[h2]
   go_wp2
   go_ret
   have hle:=tq.out
   rw[<-HM.out,List.take_length,HM.out]at hle
   exact⟨rfl,A,c,B',d,HST.out,bV.out,hle⟩
end
end DL
namespace DL
open aO Ops xE gZ Vn Mst mP mY
def cl(x:aG):aG:=
 if x.k=1 then {nz 1 with ep:=x.ep,ms:=x.ms,fl:=x.fl,lg:=x.lg}
 else if x.k=4 then {nz 4 with n:=x.n,at':=x.at'}
 else if x.k=5 then {nz 5 with n:=x.n}
 else if x.k=6 then {nz 6 with pin:=x.pin}
 else if x.k=7 then {nz 7 with n:=x.n}
 else{nz 8 with said:=x.said}
def MK(x:aG):Prop:=x.k=1\/x.k=4\/x.k=5\/x.k=6\/x.k=7\/x.k=8
theorem agG(x:aG)(h:aQ x=0):bl (kT x)=iV x:=by unfold kT;rw[if_pos h,jd]
def Cj(w:World)(s:ByteArray)(g x y:Nat)(ys:Array Value)(B:Nat)(n:aG)(e:Ending)(W':World):Prop:=
 e=.returned (.int .i64 0)/\∃(A:Option Addr) (c:Nat) (B':Option Addr) (d:Nat) (q:RS),RB w s g x y 83 q (aJ {cl n with mA:=A,mc:=c,lA:=B',lc:=d}).toArray ys W'/\aF 65 2 B W' A (cl n).ms.length c (aP (cl n).ms)/\aF 3 1 B W' B' (cl n).lg.length d (ints (cl n).lg)/\Ho s q=0
theorem sO{e:TypeId}{size B:Nat}(W:World):aF e size B W none 0 0 []:=⟨⟨by simp,.inl ⟨rfl,rfl⟩⟩,fun k hk=>by cases hk⟩
section
variable{w W:World}{s:ByteArray}{g x y:Nat}{ys:Array Value}
theorem oI(s:ByteArray){i:Nat}(h:Ops.Rest s i []):Ho s (i,0)=0:=by
 have h6:=h.le
 unfold Ho
 rw[if_neg (by simp),if_neg (by simp at h6;dsimp only;omega)]
theorem Cm(o:Od w g x y)(hs:s.size<=maxLen)(n:aG)(hk:MK n)(hE:aQ n=0)(hU:NU n)(hb:bl s=iV n)(h:RB w s g x y 83 ((put n.k.toNat).length,0) (qh n.k) ys W)(B:Nat)(hB:B<=W.heap.size)(hBb:g<B/\x<B/\y<B)(hw:w.heap.size<=B):
  Calls Tryz.prog 84 #[.pointer (some ⟨g,0,none⟩),.pointer (some ⟨x,0,none⟩)] W (Cj w s g x y ys B n):=by
 obtain⟨hu1,hu2,hu3,hu4⟩:=hU
 unfold aT at hu1 hu2 hu3 hu4
 rcases hk with e|e|e|e|e|e
 ·have hE2:(if aO.chk n.ep n.ms=0 then mV n.lg else aO.chk n.ep n.ms)=0:=by have:=hE;unfold aQ at this;rwa[if_pos e]at this
  have hc:aO.chk n.ep n.ms=0:=by
   by_cases hz:aO.chk n.ep n.ms=0
   ·exact hz
   ·rw[if_neg hz]at hE2;exact hE2
  rw[if_pos hc]at hE2
  obtain⟨hl4,hlr⟩:=Ic hE2
  have hR:Ops.Rest s 0 (put n.k.toNat++(dK (ku n.ep n.ms n.fl)++(put n.lg.length++((n.lg.flatMap fun i=>put i.toNat)++[])))):=⟨[],by rw[hb];unfold iV;rw[if_pos e];simp,rfl⟩
  have h1:=hR.step
  rw[Nat.zero_add]at h1
  have h2:=h1.step
  have h3:=h2.step
  have hcl:=tN (ep:=n.ep) (ms:=n.ms) (fl:=n.fl) (by unfold aT;omega)
  have q1:=aci h1 (most:=65536) (by omega) (by decide)
  have q2:=kM h2 (most:=4) (by omega) (by decide)
  obtain⟨p3,hp3⟩:∃p3,(put n.k.toNat).length+(dK (ku n.ep n.ms n.fl)).length+(put n.lg.length).length=p3:=⟨_,rfl⟩
  rw[hp3]at h3 q2
  have hRi:∀i,Ops.Rest s (p3+((n.lg.take i).flatMap fun i=>put i.toNat).length) ((n.lg.drop i).flatMap fun i=>put i.toNat):=fun i=>by
   have h:=h3
   have e9:(n.lg.flatMap fun i=>put i.toNat)=((n.lg.take i).flatMap fun i=>put i.toNat)++((n.lg.drop i).flatMap fun i=>put i.toNat):=by rw[<-List.flatMap_append,List.take_append_drop]
   rw[e9,List.append_nil]at h
   exact h.step
  have hpos:ac2 s n.lg (p3,0) (fun i=>(p3+((n.lg.take i).flatMap fun i=>put i.toNat).length,0)):=by
   refine⟨by simp,fun i j hj=> ?_⟩
   have hj4:=hlr j (List.mem_of_getElem? hj)
   have hd:n.lg.drop i=j::n.lg.drop (i+1):=aO.drop_cons hj
   have h4:=hRi i
   rw[hd,List.flatMap_cons]at h4
   refine⟨?_,hj4.1⟩
   have h5:=kM h4 (most:=3) (by omega) (by decide)
   rw[h5]
   have e8:((n.lg.take (i+1)).flatMap fun i=>put i.toNat).length=((n.lg.take i).flatMap fun i=>put i.toNat).length+(put j.toNat).length:=by
    rw[List.take_add_one,hj,Option.toList_some,List.flatMap_append,List.length_append]
    simp
   dsimp only
   rw[e8,Nat.add_assoc]
  have hend:Ops.Rest s (p3+((n.lg.take n.lg.length).flatMap fun i=>put i.toNat).length) []:=by
   have:=hRi n.lg.length
   rwa[List.drop_length,List.flatMap_nil]at this
  rw[e]at h
  have e':n.k.toNat=1:=by rw[e];rfl
  rw[e']at q1 q2 hp3
  refine(afQ o hs n.ep n.fl n.ms n.lg hc (by unfold aT;omega) q1 rfl q2 hl4 hpos rfl h B hB hBb hw).mono ?_
  rintro e2 W' ⟨rfl,A,c,B',d,hst,hrow,yF⟩
  have ec:cl n={nz 1 with ep:=n.ep,ms:=n.ms,fl:=n.fl,lg:=n.lg}:=by unfold cl;rw[if_pos e]
  refine⟨rfl,A,c,B',d,_,?_,?_,?_,oI s hend⟩
  ·rw[ec];exact hst
  ·rw[ec];exact hrow
  ·rw[ec];exact yF
 ·--the FD
  have hr:gW [n.n]=0:=by have:=hE;unfold aQ at this;simpa [e]using this
  have hn:=nC hr
  have hR:Ops.Rest s 0 (put n.k.toNat++(put n.at'.toNat++(put n.n.toNat++[]))):=⟨[],by rw[hb];unfold iV;rw[if_neg (by omega),if_neg (by omega),if_neg (by omega),if_pos e];simp,rfl⟩
  have h1:=hR.step
  rw[Nat.zero_add]at h1
  have h2:=h1.step
  have h3:=h2.step
  have q1:=BA h1 (by omega)
  have q2:=kM h2 (most:=1073741824) (by omega) (by decide)
  rw[show qh n.k=qh 4 by rw[e]]at h
  refine(afL o hs n.at' n.n q1 hu1.1 q2 hn.1 rfl h).mono ?_
  rintro e2 W' ⟨rfl,hst⟩
  have ec:cl n={nz 4 with n:=n.n,at':=n.at'}:=by unfold cl;rw[if_neg (by omega),if_pos e]
  refine⟨rfl,none,0,none,0,_,?_,?_,?_,oI s h3⟩
  ·rw[ec];exact hst
  ·rw[ec];exact sO W'
  ·rw[ec];exact sO W'
 ·have hr:gW [n.n]=0:=by have:=hE;unfold aQ at this;simpa [e]using this
  have hn:=nC hr
  have hR:Ops.Rest s 0 (put n.k.toNat++(put n.n.toNat++[])):=⟨[],by rw[hb];unfold iV;rw[if_neg (by omega),if_neg (by omega),if_neg (by omega),if_neg (by omega),if_neg (by omega),if_neg (by omega)];simp,rfl⟩
  have h1:=hR.step
  rw[Nat.zero_add]at h1
  have h2:=h1.step
  have q1:=kM h1 (most:=1073741824) (by omega) (by decide)
  rw[show qh n.k=qh 5 by rw[e]]at h
  refine(afM o hs n.n q1 hn.1 rfl h).mono ?_
  rintro e2 W' ⟨rfl,hst⟩
  have ec:cl n={nz 5 with n:=n.n}:=by unfold cl;rw[if_neg (by omega),if_neg (by omega),if_pos e]
  refine⟨rfl,none,0,none,0,_,?_,?_,?_,oI s h2⟩
  ·rw[ec];exact hst
  ·rw[ec];exact sO W'
  ·rw[ec];exact sO W'
 ·have hr:gW [n.pin.id,n.pin.left]=0:=by have:=hE;unfold aQ at this;simpa [e]using this
  have hn:=vK hr
  have hR:Ops.Rest s 0 (put n.k.toNat++(put n.pin.id.toNat++(put n.pin.at'.toNat++(put n.pin.left.toNat++[])))):=⟨[],by rw[hb];unfold iV;rw[if_neg (by omega),if_neg (by omega),if_neg (by omega),if_neg (by omega),if_pos e];simp,rfl⟩
  have h1:=hR.step
  rw[Nat.zero_add]at h1
  have h2:=h1.step
  have h3:=h2.step
  have h4:=h3.step
  have q1:=kM h1 (most:=1073741824) (by omega) (by decide)
  have q2:=BA h2 (by omega)
  have q3:=kM h3 (most:=1073741824) (by omega) (by decide)
  rw[show qh n.k=qh 6 by rw[e]]at h
  refine(afO o hs n.pin.id n.pin.at' n.pin.left q1 hn.1.1 q2 hu2.1 q3 hn.2.1 rfl h).mono ?_
  rintro e2 W' ⟨rfl,hst⟩
  have ec:cl n={nz 6 with pin:=n.pin}:=by unfold cl;rw[if_neg (by omega),if_neg (by omega),if_neg (by omega),if_pos e]
  refine⟨rfl,none,0,none,0,_,?_,?_,?_,oI s h4⟩
  ·rw[ec];exact hst
  ·rw[ec];exact sO W'
  ·rw[ec];exact sO W'
 ·have hr:gW [n.n]=0:=by have:=hE;unfold aQ at this;simpa [e]using this
  have hn:=nC hr
  have hR:Ops.Rest s 0 (put n.k.toNat++(put n.n.toNat++[])):=⟨[],by rw[hb];unfold iV;rw[if_neg (by omega),if_neg (by omega),if_neg (by omega),if_neg (by omega),if_neg (by omega),if_neg (by omega)];simp,rfl⟩
  have h1:=hR.step
  rw[Nat.zero_add]at h1
  have h2:=h1.step
  have q1:=kM h1 (most:=1073741824) (by omega) (by decide)
  rw[show qh n.k=qh 7 by rw[e]]at h
  refine(afN o hs n.n q1 hn.1 rfl h).mono ?_
  rintro e2 W' ⟨rfl,hst⟩
  have ec:cl n={nz 7 with n:=n.n}:=by unfold cl;rw[if_neg (by omega),if_neg (by omega),if_neg (by omega),if_neg (by omega),if_pos e]
  refine⟨rfl,none,0,none,0,_,?_,?_,?_,oI s h2⟩
  ·rw[ec];exact hst
  ·rw[ec];exact sO W'
  ·rw[ec];exact sO W'
 ·have hr:saidE n.said=0:=by have:=hE;unfold aQ at this;simpa [e]using this
  obtain⟨a1,a2,a3,a4⟩:=JF hr
  have hR:Ops.Rest s 0 (put n.k.toNat++(put n.said.cl.toNat++(put n.said.req.toNat++(put n.said.e.toNat++(put n.said.pin.toNat++[]))))):=⟨[],by rw[hb];unfold iV;rw[if_neg (by omega),if_neg (by omega),if_neg (by omega),if_neg (by omega),if_neg (by omega),if_pos e];simp,rfl⟩
  have h1:=hR.step
  rw[Nat.zero_add]at h1
  have h2:=h1.step
  have h3:=h2.step
  have h4:=h3.step
  have h5:=h4.step
  have q1:=kM h1 (most:=2) (by omega) (by decide)
  have q2:=kM h2 (most:=1073741824) (by omega) (by decide)
  have q3:=kM h3 (most:=21) (by omega) (by decide)
  have q4:=kM h4 (most:=1073741824) (by omega) (by decide)
  rw[show qh n.k=qh 8 by rw[e]]at h
  refine(afP o hs n.said.cl n.said.req n.said.e n.said.pin q1 a1.1 q2 a2.1 q3 a3.1 q4 a4.1 rfl h).mono ?_
  rintro e2 W' ⟨rfl,hst⟩
  have ec:cl n={nz 8 with said:=n.said}:=by unfold cl;rw[if_neg (by omega),if_neg (by omega),if_neg (by omega),if_neg (by omega),if_neg (by omega)]
  refine⟨rfl,none,0,none,0,_,?_,?_,?_,oI s h5⟩
  ·rw[ec];exact hst
  ·rw[ec];exact sO W'
  ·rw[ec];exact sO W'
end
end DL
namespace DL
open aO Ops xE gZ Vn Mst mP mY
def E6(a:Addr)(v:Value):Sem Unit:=storeVar 83 a v
theorem DN(a:Addr)(v:Value):storeVar 83 a v=E6 a v:=rfl
theorem Qg(W:World)(g:Nat)(cs:Array Value):Kept (fun k=>k=g) W (W.setRow g cs):=
 ⟨rfl,rfl,rfl,by unfold World.setRow;simp,fun k hk hF=>by
  unfold World.setRow
  rw[Array.getElem?_modify,if_neg (fun e=>hF e.symm)]⟩
theorem agH(x:aG):(aJ x).toArray.all (·.oneCell')=true:=by simp[aJ,Value.oneCell']
theorem RN{W:World}{g:Nat}{cs cs':Array Value}(h:Has W g 83 cs):Has (W.setRow g cs') g 83 cs':=by
 unfold Has at h⊢
 unfold World.setRow
 rw[Array.getElem?_modify,if_pos rfl,h]
 rfl
theorem Qh{W:World}{rb:Nat}{cs:Array Value}(h:Has W rb 83 cs)(hs:cs.size=18)(x:aG):∃W',(E6 ⟨rb,0,none⟩ (.agg (aJ x).toArray)).run Tryz.prog W=.ok () W'/\Has W' rb 83 (aJ x).toArray/\Kept (fun k=>k=rb) W W':=
 ⟨_,run_storeVar_row W rb _ _ _ _ h (show(Tryz.prog.info? 83).map (·.size)=some 18 by kernel_rfl) (by rw[hs];rfl) (agH x),RN h,Qg _ _ _⟩
theorem Qi(w:World)(x:aG):∃Wz W8,w.alloc (.cells (qh 0) 83)=Wz/\(E6 ⟨w.heap.size,0,none⟩ (.agg (aJ x).toArray)).run Tryz.prog Wz=.ok () W8/\Has W8 w.heap.size 83 (aJ x).toArray/\Kept aj w W8:=by
 obtain⟨W8,h1,h2,h3⟩:=Qh (Has.new w 83 (qh 0)) rfl x
 exact⟨_,W8,rfl,h1,h2,((Kept.refl aj w).alloc _).trans h3 (fun i hi=> .inr (by rw[hi];exact Nat.le_refl _))⟩
theorem zf{w:World}{g:Nat}{x:aG}(h:Has w g 83 (aJ x).toArray):(CW ⟨g,0,none⟩).run Tryz.prog w=.ok (.agg (aJ x).toArray) w:=by
 obtain⟨h1,h2⟩:=uQ (cs:=aJ x) rfl h
 rw[uP w _ h1,h2]
theorem VJ{x:aG}(hk:MK x)(hE:aQ x=0)(A B:Option Addr)(c d:Nat):aQ {cl x with mA:=A,mc:=c,lA:=B,lc:=d}=0/\(cl x).ms.length<=4/\(cl x).lg.length<=4:=by
 rcases hk with e|e|e|e|e|e
 ·have hE2:(if aO.chk x.ep x.ms=0 then mV x.lg else aO.chk x.ep x.ms)=0:=by have:=hE;unfold aQ at this;rwa[if_pos e]at this
  have hc:aO.chk x.ep x.ms=0:=by
   by_cases hz:aO.chk x.ep x.ms=0
   ·exact hz
   ·rw[if_neg hz]at hE2;exact hE2
  have hl:mV x.lg=0:=by rwa[if_pos hc]at hE2
  have ec:cl x={nz 1 with ep:=x.ep,ms:=x.ms,fl:=x.fl,lg:=x.lg}:=by unfold cl;rw[if_pos e]
  rw[ec]
  refine⟨?_,(iT hc).2.2.1,(Ic hl).1⟩
  show(if aO.chk x.ep x.ms=0 then mV x.lg else aO.chk x.ep x.ms)=0
  exact hE2
 ·have hr:gW [x.n]=0:=by have:=hE;unfold aQ at this;simpa [e]using this
  have ec:cl x={nz 4 with n:=x.n,at':=x.at'}:=by unfold cl;rw[if_neg (by omega),if_pos e]
  rw[ec]
  exact⟨hr,Nat.zero_le _,Nat.zero_le _⟩
 ·have hr:gW [x.n]=0:=by have:=hE;unfold aQ at this;simpa [e]using this
  have ec:cl x={nz 5 with n:=x.n}:=by unfold cl;rw[if_neg (by omega),if_neg (by omega),if_pos e]
  rw[ec]
  exact⟨hr,Nat.zero_le _,Nat.zero_le _⟩
 ·have hr:gW [x.pin.id,x.pin.left]=0:=by have:=hE;unfold aQ at this;simpa [e]using this
  have ec:cl x={nz 6 with pin:=x.pin}:=by unfold cl;rw[if_neg (by omega),if_neg (by omega),if_neg (by omega),if_pos e]
  rw[ec]
  exact⟨hr,Nat.zero_le _,Nat.zero_le _⟩
 ·have hr:gW [x.n]=0:=by have:=hE;unfold aQ at this;simpa [e]using this
  have ec:cl x={nz 7 with n:=x.n}:=by unfold cl;rw[if_neg (by omega),if_neg (by omega),if_neg (by omega),if_neg (by omega),if_pos e]
  rw[ec]
  exact⟨hr,Nat.zero_le _,Nat.zero_le _⟩
 ·have hr:saidE x.said=0:=by have:=hE;unfold aQ at this;simpa [e]using this
  have ec:cl x={nz 8 with said:=x.said}:=by unfold cl;rw[if_neg (by omega),if_neg (by omega),if_neg (by omega),if_neg (by omega),if_neg (by omega)]
  rw[ec]
  exact⟨hr,Nat.zero_le _,Nat.zero_le _⟩
theorem VK(x:aG):(cl x).b.ops=[]/\(cl x).oA=none/\(cl x).oc=0:=by
 unfold cl
 repeat' split
 all_goals exact⟨rfl,rfl,rfl⟩
attribute [local go_sem↓] uO DN
def ad4(w:World)(n:aG)(e:Ending)(w':World):Prop:=
 ∃(A:Option Addr) (c:Nat) (B:Option Addr) (d:Nat),e=.returned (.tuple #[Mst.fE {cl n with mA:=A,mc:=c,lA:=B,lc:=d},.int .i64 0])/\aF 65 2 w.heap.size w' A (cl n).ms.length c (aP (cl n).ms)/\aF 3 1 w.heap.size w' B (cl n).lg.length d (ints (cl n).lg)/\Kept aj w w'
theorem ad6(w:World)(n:aG)(hk:MK n)(hE:aQ n=0)(hU:NU n):Calls Tryz.prog 37 #[.string (kT n)] w (ad4 w n):=by
 have hbl:=agG n hE
 have hsl:(kT n).size<=maxLen:=by have:=dH.EI hU;unfold maxLen;omega
 obtain⟨s,hs⟩:∃s,kT n=s:=⟨_,rfl⟩
 rw[hs]at hbl hsl⊢
 have ahp:1<=n.k/\n.k<=8:=by rcases hk with e|e|e|e|e|e<;>omega
 have hR:Ops.Rest s 0 (put n.k.toNat++((iV n).drop (put n.k.toNat).length)):=⟨[],by rw[hbl];unfold iV;simp,rfl⟩
 have hq:=kM hR (n:=n.k.toNat) (most:=8) (by omega) (by decide)
 rw[Nat.zero_add]at hq
 have hkc:((n.k.toNat:Nat):Int)=n.k:=by omega
 have hrd:=fun(w' W:World) (g x y:Nat) (ys:Array Value) (B:Nat) (o:Od w' g x y) (h:RB w' s g x y 83 ((put n.k.toNat).length,0) (qh n.k) ys W) (h1:B<=W.heap.size) (h2:g<B/\x<B/\y<B) (h3:w'.heap.size<=B)=>Cm o hsl n hk hE hU hbl h B h1 h2 h3
 have Td:=ah hrd;have HQ:=ah (And.intro hq hkc);have HS:=ah hsl;have nX:=ah (fun A B c d=>VJ hk hE A B c d)
 have hkz:(n.k==0)=false:=by simp;omega
 have hyy:∀W:World,True:=fun _=>trivial
 clear hbl hsl hR hq hkc hrd hs hk hE hU ahp hyy
 obtain⟨k,hk⟩:∃k,n.k=k:=⟨_,rfl⟩
 rw[hk]at Td HQ hkz
 clear hk
 go_enter Tryz.func37,Tryz.ntmps37
 go_wp2_with fail
 refine(open_any _ _).mono ?_
 rintro e w2 ⟨rfl,hr0,hk0⟩
 have hy0:=(Has.new w 83 (qh 0)).kept hk0 (fun z=>z)
 have Qe:=((Kept.refl aj w).alloc (.cells (qh 0) 83)).then hk0
 rw[size_alloc]at hr0⊢
 have HA:=ah (And.intro hr0 (And.intro hy0 Qe));clear hr0 hy0 Qe hk0
 go_wp2_with fail
 refine(kN w2 _ s (0,0) 8 HA.out.1 HS.out (by decide)).mono ?_
 rintro e w3 ⟨rfl,hr,hk⟩
 rw[HQ.out.1]at hr⊢
 dsimp only at hr⊢
 rw[HQ.out.2]
 have hg2:=HA.out.1.1.lt
 have hsz2:=hk.size
 have ho:Od w (w.heap.size+1) w3.heap.size w.heap.size:=⟨by omega,by omega,by omega,by omega,by omega,by omega⟩
 obtain⟨Wz,W4,zN,acs,hx4,hk4⟩:=Qi w3 (nz k)
 have hst:RB w s (w.heap.size+1) w3.heap.size w.heap.size 83 ((put k.toNat).length,0) (qh k) (qh 0) W4:=
  ⟨hr.kept hk4 (fun z=>z),hx4,(HA.out.2.1.kept hk (by omega)).kept hk4 (fun z=>z),(HA.out.2.2.trans hk (fun i hi=> .inr (by omega))).then hk4⟩
 have hbs:w3.heap.size+1<=W4.heap.size:=hx4.lt
 have HB:=ah (And.intro hbs (show w.heap.size+1<w3.heap.size+1/\w3.heap.size<w3.heap.size+1/\w.heap.size<w3.heap.size+1 by omega))
 have HO:=ah ho;have HST:=ah hst
 have q0:W4.cell? ⟨w3.heap.size,0,none⟩=some (.int .i64 k):=hx4.cell 0
 unfold aJ nz at acs
 dsimp only[List.length_nil]at acs
 clear hr hk hg2 hsz2 HA ho hx4 hk4 hst hbs
 go_wp2_with fail
 clear zN acs
 refine(iJ _ _ s _ HST.out.rd).mono ?_
 rintro e w5 ⟨rfl,rfl⟩
 dsimp only
 go_wp2_with fail
 clear q0
 refine(Td.out w W4 _ _ _ (qh 0) (w3.heap.size+1) HO.out HST.out HB.out.1 HB.out.2 (by have:=HO.out.wx;omega)).mono ?_
 rintro e w6 ⟨rfl,A,c,B',d,q,hst,hrow,yF,hend⟩
 have y8:=ah hst;have bV:=ah hrow;have tq:=ah yF;have jv:=ah hend
 clear hst hrow yF hend HST Td
 go_wp2_with fail
 refine(Bi _ _ s q y8.out.rd HS.out).mono ?_
 rintro e w7 ⟨rfl,lN⟩
 rw[jv.out]
 have acu:=ah (y8.out.keep lN);have wE:=ah (bV.out.kept lN);have VL:=ah (tq.out.kept lN)
 clear lN
 obtain⟨m,hm⟩:∃m:aG,{cl n with mA:=A,mc:=c,lA:=B',lc:=d}=m:=⟨_,rfl⟩
 have hck:=dZ w7 m (by rw[<-hm];exact⟨Src.bC wE.out.1,(fV wE.out.1).1,by have:=(nX.out A B' c d).2.1;show(cl n).ms.length<=1000;omega,Src.bC VL.out.1,(fV VL.out.1).1,by have:=(nX.out A B' c d).2.2;show(cl n).lg.length<=1000;omega,by show Src w7 3 (cl n).oA (cl n).b.ops.length (Ops.cells (cl n).b.ops);rw[(VK n).1,(VK n).2.1];exact Src.nil _ _ _⟩)
 rw[show aQ m=0 by rw[<-hm];exact(nX.out A B' c d).1]at hck
 rw[hm]at acu
 have hl:=zf acu.out.x
 have HM:=ah hm
 obtain⟨cs,hcs⟩:∃cs,(aJ m).toArray=cs:=⟨_,rfl⟩
 unfold Mst.fE at hck
 rw[hcs]at hck hl
 have lX:=ah hck;have HCS:=ah hcs
 clear hm hck hcs
 go_wp2_with fail
 clear hl
 refine lX.out.mono ?_
 rintro e w8 ⟨rfl,hk8⟩
 have Az:=acu.out.keep hk8
 have hl:=zf Az.x
 rw[HCS.out]at hl
 obtain⟨W9,nO,hy9,hk9⟩:=Qh Az.y rfl m
 rw[HCS.out]at nO
 have ahq:=ah Az;have FM:=ah (wE.out.kept hk8);have VM:=ah (VL.out.kept hk8);have HY9:=ah hy9;have nK:=ah hk9
 clear hk8 Az hy9 hk9
 go_wp2_with fail
 refine bodyPost_ret (zV rfl _ _ w.heap.size _ rfl (zf HY9.out)) rfl ?_
 have hlt:∀k,w3.heap.size+1<=k->¬k=w.heap.size:=fun k h1 h2=>by have:=HO.out.wx;omega
 exact⟨A,c,B',d,by rw[HM.out];rfl,⟨aC FM.out.1 nK.out (fun k hk=>hlt k (FM.out.2 k hk)),fun k hk=>by have:=FM.out.2 k hk;have:=HO.out.wx;omega⟩,⟨aC VM.out.1 nK.out (fun k hk=>hlt k (VM.out.2 k hk)),fun k hk=>by have:=VM.out.2 k hk;have:=HO.out.wx;omega⟩,ahq.out.k.trans nK.out (fun k e=> .inr (by rw[e];exact Nat.le_refl _))⟩
end DL
end Go.Proofs.YtfjdpbbgfjhnlaaGreat
